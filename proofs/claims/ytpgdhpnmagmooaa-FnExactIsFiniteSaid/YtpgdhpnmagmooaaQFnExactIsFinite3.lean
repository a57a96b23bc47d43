/- Texts of the proof of FnExactIsFinite, put together. No condition. -/
import Derived.Test.YtpgdhpnmagmooaaQFnExactIsFinite2
import Derived.Shelf.Abstract
import Derived.Lib.Walk
section
namespace Go.Proofs.Ytpgdhpnmagmooaa.P
open Go.RowKit Go.Proofs.YtpgdhpnmagmooaaW.PrintWords Go.Proofs.YtpgdhpnmagmooaaW.PrintLast Go.Proofs.YtpgdhpnmagmooaaW.PrintMore
attribute [local go_sem] max2_int min2_int max_two min_two max_three min_three max_four min_four
set_option linter.unusedVariables false
set_option linter.unusedSimpArgs false
def spec_l6Put.l0 : Nat → List Int → Int → Int → Option (List Int)
  | 0, _, _, _ => none
  | k + 1, x0, x1, x5 => if x5 < (x0.length : Int) then (if 0 ≤ x5 then (if (rd x0 x5) < x1 then (spec_l6Put.l0 k x0 x1 (wrap64 (x5 + 1))) else (if (rd x0 x5) = x1 then (some x0) else ((some (([] : List Int) : List Int)).bind fun ap => (if x5 ≤ (x0.length : Int) then ((some (x0.take (x5 : Int).toNat : List Int)).bind fun ag => (if ap.length + ag.length < 17592186044416 then ((some (ap ++ ag : List Int)).bind fun ak => (if ak.length < 17592186044416 then ((some (ak ++ [x1] : List Int)).bind fun ah => ((some (x0.drop (x5 : Int).toNat : List Int)).bind fun ad => (if ah.length + ad.length < 17592186044416 then (some (ah ++ ad)) else (none)))) else (none))) else (none))) else (none))))) else (none)) else ((some (([] : List Int) : List Int)).bind fun aq => (if 0 ≤ x5 then (if x5 ≤ (x0.length : Int) then ((some (x0.take (x5 : Int).toNat : List Int)).bind fun ai => (if aq.length + ai.length < 17592186044416 then ((some (aq ++ ai : List Int)).bind fun al => (if al.length < 17592186044416 then ((some (al ++ [x1] : List Int)).bind fun aj => ((some (x0.drop (x5 : Int).toNat : List Int)).bind fun ae => (if aj.length + ae.length < 17592186044416 then (some (aj ++ ae)) else (none)))) else (none))) else (none))) else (none)) else (none)))
def spec_l6Put.f (k : Nat) (l0 : List Int) (a1 : Int) : Option (List Int) := spec_l6Put.l0 k l0 a1 0
theorem spec_l6Put.mono_l : ∀ k, (∀ y0 y1 y2, LeO (spec_l6Put.l0 k y0 y1 y2) (spec_l6Put.l0 (k + 1) y0 y1 y2))
 | 0 => fun _ _ _ r h => by simp [spec_l6Put.l0] at h
 | k + 1 => by
  have ih0 := spec_l6Put.mono_l k
  ·intro y0 y1 y2
   unfold spec_l6Put.l0
   repeat' first
   | (with_reducible exact ih0 _ _ _)
   | (with_reducible exact LeO.refl _)
   | (with_reducible exact LeO.none _)
   | (with_reducible refine LeO.ite ?_ ?_)
   | (with_reducible refine LeO.bind ?_ (fun _ => ?_))
   | exact ih0 _ _ _
   | exact LeO.none _
   | refine LeO.ite ?_ ?_
   | refine LeO.bind ?_ (fun _ => ?_)
theorem spec_l6Put.mono : ∀ a0 a1 k, LeO (spec_l6Put.f k a0 a1) (spec_l6Put.f (k + 1) a0 a1) := by
 intro a0 a1 k
 have ih0 := spec_l6Put.mono_l k
 unfold spec_l6Put.f
 repeat' first
   | (with_reducible exact ih0 _ _ _)
   | (with_reducible exact LeO.refl _)
   | (with_reducible exact LeO.none _)
   | (with_reducible refine LeO.ite ?_ ?_)
   | (with_reducible refine LeO.bind ?_ (fun _ => ?_))
   | exact ih0 _ _ _
   | exact LeO.none _
   | refine LeO.ite ?_ ?_
   | refine LeO.bind ?_ (fun _ => ?_)
theorem zp3_0_ {p q : Prop} (h : p) (c : p → q := by intro h_; repeat (first | (with_reducible first | exact h_ | apply Kept.alloc | apply Kept.drewN | apply Kept.drew) | exact h_)) : q := c h
theorem zp3_1_ {p q : Prop} (h : p) (c : p → q := by intro h_; repeat (first | (with_reducible first | exact h_ | apply below_alloc | apply pw_below_drewN | apply below_drew1) | exact h_)) : q := c h
set_option maxHeartbeats 8000000 in
set_option maxRecDepth 100000 in
theorem spec_l6Put.calls (k : Nat) (P0_ : Nat → Prop) (u9000_ : Value) (l0 : List Int) (a1 : Int) (r : List Int) (w0 w : World) (hB : Below w0.heap.size w0 w) (ho0 : Kd.R (Kd.int .i64) 3 w w0.heap.size P0_ u9000_ l0) (h : spec_l6Put.f k l0 a1 = some r) :
  Calls Try.prog 25 #[u9000_, .int .i64 a1] w fun e w' => ∃ v0_ : Value, e = .returned (v0_) ∧ Kd.R (Kd.int .i64) 3 w' w0.heap.size (fun k_ => (P0_ k_ ∨ w.heap.size ≤ k_)) v0_ r ∧ Below w0.heap.size w0 w' ∧ Kept w w' (fun k_ => P0_ k_) := by
 have HO0 := am_ (show Kd.R (Kd.int .i64) 3 w w0.heap.size (fun k_ => (P0_ k_ ∨ w.heap.size ≤ k_)) u9000_ l0 from Kd.R_mono ho0 (fun k_ hk => (.inl hk)))
 have HK := am_ (Kept.refl w (fun k_ => P0_ k_))
 have HW0 := am_ hB.size
 have HB := am_ hB
 clear hB
 have H : (spec_l6Put.l0 k l0 a1 0) = some r := h
 clear h
 have H' := am_ H
 clear H
 go_enter Try.func25, Try.ntmps25
 go_wp2
 go_loopg [5] k (fun kq v5 w' => ∃ (aa : Int), v5 = .int .i64 aa ∧ Aside0 (spec_l6Put.l0 kq l0 a1 aa = some r) ∧ Aside0 (kq ≤ k) ∧ Aside0 (Kd.R (Kd.int .i64) 3 w' w0.heap.size (fun k_ => (P0_ k_ ∨ w.heap.size ≤ k_)) u9000_ l0) ∧ Aside0 (Kept w w' (fun k_ => P0_ k_)) ∧ Aside0 (Below w0.heap.size w0 w'))
 case atStart => exact ⟨(0), (by first | rfl | (simp; done) | (simp [*]; done)), H', ⟨Nat.le_refl _⟩, ⟨by refine rr_ ?_; exact HO0.out⟩, ⟨by exact zp3_0_ HK.out⟩, ⟨by exact zp3_1_ HB.out⟩⟩
 case round =>
  clear H'
  try clear c2
  try clear p2
  obtain ⟨aa, rfl, HA, HK1, ab, HK, HB⟩ := hrel
  cases gk with
  | zero => exact absurd HA.out (by simp [spec_l6Put.l0])
  | succ k1 =>
   have H := HA.out
   clear HA
   simp only [spec_l6Put.l0] at H
   by_cases c3 : aa < (l0.length : Int)
   ·rw [if_pos c3] at H
    have c3b0 : decide (aa < (l0.length : Int)) = true := decide_eq_true c3
    clear c3
    by_cases c4 : 0 ≤ aa
    ·rw [if_pos c4] at H
     have c4b0 : decide (0 ≤ aa) = true := decide_eq_true c4
     clear c4
     by_cases c5 : (rd l0 aa) < a1
     ·rw [if_pos c5] at H
      have c5b0 : decide ((rd l0 aa) < a1) = true := decide_eq_true c5
      clear c5
      have H' := am_ H
      clear H
      obtain ⟨Ao6, co6, eo6⟩ := Kd.R_slice ab.out
      subst eo6
      have p118 : 0 ≤ (aa : Int) := of_decide_eq_true ah_
      have q118 : aa < (l0.length : Int) := of_decide_eq_true ah_
      obtain ⟨af, e118, av⟩ := Kd.at_int (Kd.R_reads' ab.out).2.2 aa p118 q118
      cases e118
      replace p118 := eq_true p118
      replace q118 := eq_true q118
      go_wp2
      go_roundg k1
      case measure => have := HK1.out; omega
      case rel => exact ⟨(wrap64 (aa + 1)), (by first | rfl | (simp; done) | (simp [*]; done)), H', ⟨by have := HK1.out; omega⟩, ⟨by refine rr_ ?_; exact ab.out⟩, ⟨by exact zp3_0_ HK.out⟩, ⟨by exact zp3_1_ HB.out⟩⟩
     ·rw [if_neg c5] at H
      have c5b0 : decide ((rd l0 aa) < a1) = false := decide_eq_false c5
      clear c5
      by_cases c7 : (rd l0 aa) = a1
      ·rw [if_pos c7] at H
       have c7b0 : ((rd l0 aa) == a1) = true := beq_iff_eq.mpr c7
       have c7b1 : ((rd l0 aa) != a1) = false := bne_eq_false_iff_eq.mpr c7
       clear c7
       obtain rfl := Option.some.inj H
       simp only [Option.some.injEq, Prod.mk.injEq] at H
       obtain ⟨rfl⟩ := H
       obtain ⟨Ao8, co8, eo8⟩ := Kd.R_slice ab.out
       subst eo8
       have p118 : 0 ≤ (aa : Int) := of_decide_eq_true ah_
       have q118 : aa < (l0.length : Int) := of_decide_eq_true ah_
       obtain ⟨af, e118, av⟩ := Kd.at_int (Kd.R_reads' ab.out).2.2 aa p118 q118
       cases e118
       replace p118 := eq_true p118
       replace q118 := eq_true q118
       have p119 : 0 ≤ (aa : Int) := of_decide_eq_true ah_
       have q119 : aa < (l0.length : Int) := of_decide_eq_true ah_
       obtain ⟨aw, e119, aJ⟩ := Kd.at_int (Kd.R_reads' ab.out).2.2 aa p119 q119
       obtain rfl : af = aw := (by injection e119)
       replace p119 := eq_true p119
       replace q119 := eq_true q119
       go_wp2
       go_ret
       exact ⟨_, by first | rfl | (simp [errW_none, errW_some] <;> rfl) | (simp [*, errW_none, errW_some] <;> rfl), by refine rr_ ?_; exact ab.out, by exact zp3_1_ HB.out, by exact zp3_0_ HK.out⟩
      ·rw [if_neg c7] at H
       have c7b0 : ((rd l0 aa) == a1) = false := beq_eq_false_iff_ne.mpr c7
       have c7b1 : ((rd l0 aa) != a1) = true := bne_iff_ne.mpr c7
       obtain ⟨ap, hy120⟩ : ∃ y_ : List Int, y_ = (([] : List Int)) := ⟨_, rfl⟩
       replace H : (if aa ≤ (l0.length : Int) then ((some (l0.take (aa : Int).toNat : List Int)).bind fun ag => (if ap.length + ag.length < 17592186044416 then ((some (ap ++ ag : List Int)).bind fun ak => (if ak.length < 17592186044416 then ((some (ak ++ [a1] : List Int)).bind fun ah => ((some (l0.drop (aa : Int).toNat : List Int)).bind fun ad => (if ah.length + ad.length < 17592186044416 then (some (ah ++ ad)) else (none)))) else (none))) else (none))) else (none)) = some r := by first | (rw [hy120]; with_reducible exact H) | (have H2_ := (Option.bind_some _ _).symm.trans H; rw [hy120]; with_reducible exact H2_) | (have H2_ := (Option.bind_some _ _).symm.trans H; with_reducible exact H2_) | with_reducible exact H | (rw [hy120]; exact H) | exact H
       have aH := am_ hy120
       clear hy120
       have c9b0 := eq_true (of_decide_eq_true ah_ : 0 ≤ aa)
       by_cases c10 : aa ≤ (l0.length : Int)
       ·rw [if_pos c10] at H
        have c10b0 := eq_true c10
        have c10b1 : decide (aa ≤ (l0.length : Int)) = true := decide_eq_true c10
        clear c10
        obtain ⟨ag, hy123⟩ : ∃ y_ : List Int, y_ = (l0.take (aa : Int).toNat) := ⟨_, rfl⟩
        replace H : (if ap.length + ag.length < 17592186044416 then ((some (ap ++ ag : List Int)).bind fun ak => (if ak.length < 17592186044416 then ((some (ak ++ [a1] : List Int)).bind fun ah => ((some (l0.drop (aa : Int).toNat : List Int)).bind fun ad => (if ah.length + ad.length < 17592186044416 then (some (ah ++ ad)) else (none)))) else (none))) else (none)) = some r := by first | (rw [hy123]; with_reducible exact H) | (have H2_ := (Option.bind_some _ _).symm.trans H; rw [hy123]; with_reducible exact H2_) | (have H2_ := (Option.bind_some _ _).symm.trans H; with_reducible exact H2_) | with_reducible exact H | (rw [hy123]; exact H) | exact H
        have ar := am_ hy123
        clear hy123
        by_cases c11 : ap.length + ag.length < 17592186044416
        ·rw [if_pos c11] at H
         have LMc11 := am_ c11
         clear c11
         obtain ⟨ak, hy127⟩ : ∃ y_ : List Int, y_ = (ap ++ ag) := ⟨_, rfl⟩
         replace H : (if ak.length < 17592186044416 then ((some (ak ++ [a1] : List Int)).bind fun ah => ((some (l0.drop (aa : Int).toNat : List Int)).bind fun ad => (if ah.length + ad.length < 17592186044416 then (some (ah ++ ad)) else (none)))) else (none)) = some r := by first | (rw [hy127]; with_reducible exact H) | (have H2_ := (Option.bind_some _ _).symm.trans H; rw [hy127]; with_reducible exact H2_) | (have H2_ := (Option.bind_some _ _).symm.trans H; with_reducible exact H2_) | with_reducible exact H | (rw [hy127]; exact H) | exact H
         have aK := am_ hy127
         clear hy127
         by_cases c12 : ak.length < 17592186044416
         ·rw [if_pos c12] at H
          have LMc12 := am_ c12
          clear c12
          obtain ⟨ah, hy130⟩ : ∃ y_ : List Int, y_ = (ak ++ [a1]) := ⟨_, rfl⟩
          replace H : ((some (l0.drop (aa : Int).toNat : List Int)).bind fun ad => (if ah.length + ad.length < 17592186044416 then (some (ah ++ ad)) else (none))) = some r := by first | (rw [hy130]; with_reducible exact H) | (have H2_ := (Option.bind_some _ _).symm.trans H; rw [hy130]; with_reducible exact H2_) | (have H2_ := (Option.bind_some _ _).symm.trans H; with_reducible exact H2_) | with_reducible exact H | (rw [hy130]; exact H) | exact H
          have aM := am_ hy130
          clear hy130
          have c13b0 := eq_true (of_decide_eq_true ah_ : 0 ≤ aa)
          have c14b0 := eq_true (of_decide_eq_true ah_ : aa ≤ (l0.length : Int))
          obtain ⟨ad, hy133⟩ : ∃ y_ : List Int, y_ = (l0.drop (aa : Int).toNat) := ⟨_, rfl⟩
          replace H : (if ah.length + ad.length < 17592186044416 then (some (ah ++ ad)) else (none)) = some r := by first | (rw [hy133]; with_reducible exact H) | (have H2_ := (Option.bind_some _ _).symm.trans H; rw [hy133]; with_reducible exact H2_) | (have H2_ := (Option.bind_some _ _).symm.trans H; with_reducible exact H2_) | with_reducible exact H | (rw [hy133]; exact H) | exact H
          have ax := am_ hy133
          clear hy133
          by_cases c15 : ah.length + ad.length < 17592186044416
          ·rw [if_pos c15] at H
           have LMc15 := am_ c15
           clear c15
           obtain ⟨aX, hy137⟩ : ∃ y_ : List Int, y_ = (ah ++ ad) := ⟨_, rfl⟩
           replace H : (some aX) = some r := by first | (rw [hy137]; with_reducible exact H) | (have H2_ := (Option.bind_some _ _).symm.trans H; rw [hy137]; with_reducible exact H2_) | (have H2_ := (Option.bind_some _ _).symm.trans H; with_reducible exact H2_) | with_reducible exact H | (rw [hy137]; exact H) | exact H
           have aN := am_ hy137
           clear hy137
           obtain rfl := Option.some.inj H
           simp only [Option.some.injEq, Prod.mk.injEq] at H
           obtain ⟨rfl⟩ := H
           obtain ⟨bh, am, aY⟩ := Kd.R_slice ab.out
           subst aY
           have p118 : 0 ≤ (aa : Int) := of_decide_eq_true ah_
           have q118 : aa < (l0.length : Int) := of_decide_eq_true ah_
           obtain ⟨af, e118, av⟩ := Kd.at_int (Kd.R_reads' ab.out).2.2 aa p118 q118
           cases e118
           replace p118 := eq_true p118
           replace q118 := eq_true q118
           have p119 : 0 ≤ (aa : Int) := of_decide_eq_true ah_
           have q119 : aa < (l0.length : Int) := of_decide_eq_true ah_
           obtain ⟨aw, e119, aJ⟩ := Kd.at_int (Kd.R_reads' ab.out).2.2 aa p119 q119
           obtain rfl : af = aw := (by injection e119)
           replace p119 := eq_true p119
           replace q119 := eq_true q119
           go_wp2_with (first | ((with_reducible refine gate_dst (N := 34) rfl ?_); refine Kd.R_lit (Kd.int .i64) _ 3 ?hg (N := 34) ?hd (xs := ([] : List Int)) (inner := []) (ok := fun _ => True) (okp := fun _ => True) ?hr ?hp (fun _ hk => hk) trivial (Below.refl _ _) (Nat.le_refl _) (by simp) ?_; (case hd => rfl); (case hg => rfl); (case hr => first | (go_simp; done) | (go_simp; rfl)); (case hp => exact (Reps.none _ _)); intro aZ w17 ho18 hb hg_ hnew_; clear hg_ hnew_; (first | rw [← aH.out] at ho18 | (simp only [Int.reduceToNat] at ho18; rw [← aH.out] at ho18)); have n0_ := am_ (Kd.R_elder' (rr_ ab.out) (Kd.R_base ho18) hb); have n1_ := am_ (Kd.R_lower (Kd.R_new' (Kd.R_newM (M := fun k_ => (P0_ k_ ∨ w.heap.size ≤ k_)) ho18 (by first | exact HK.out.1 | exact (show Kept w _ (fun k_ => P0_ k_) from by exact zp3_0_ HK.out).1) (fun k_ h_ => .inr h_)) (Kd.R_lt (rr_ ab.out))) (below_size (b0_ HB.out))); have n2_ := am_ (Kept.below (S := (fun k_ => P0_ k_)) (zp3_0_ HK.out) hb); have n3_ := am_ (below_step (b0_ HB.out) hb); clear ab; clear HK; clear HB; have ab := n0_; have ay := n1_; have HK := n2_; have HB := n3_; clear n0_ n1_ n2_ n3_; clear hb ho18; have q19 : (aa : Int) ≤ ((l0.length : Int) : Int) := of_decide_eq_true ah_; obtain ⟨i019, hi019, _, hsz19, _⟩ := info_parts info3; have hroom19 : l0.length ≤ am := (Kd.R_reads' ab.out).2.1; have hC19 : Kd.C (Kd.int .i64) _ (some af) l0.length l0 := (Kd.R_reads' ab.out).2.2; have hcut19 := cut_to (P := Try.prog) 43 3 .i64 Try.underlying43 hi019 (some af) l0.length am aa (of_decide_eq_true ah_) q19 hroom19; have hr19 := Kd.C_take (m := (aa : Int).toNat) hC19 (by omega); have hy19 : ag.length = (aa : Int).toNat := (by rw [ar.out, List.length_take]; omega); rw [← ar.out] at hr19; rw [← hy19] at hcut19; have HR126 := am_ hr19; have HC126 := am_ (show ag.length ≤ am from by omega); clear hr19 hC19 hroom19 hi019 hsz19; have KY19 := am_ hy19; clear hy19; have KL19 := am_ (show (aa : Int).toNat ≤ l0.length from by omega); replace q19 := eq_true q19) | ((with_reducible refine gate_builtin (b := .append) (xs := #[.tmp 34, .tmp 37]) rfl ?_); at_builtin; refine Kd.R_append_rows (Kd.int .i64) (w0 := w0) w0.heap.size rfl (.tmp 34) (.tmp 37) 43 3 (.int .i64 0) 8 rfl Try.underlying43 info3 rfl (by decide) (by omega) aZ ap ag _ _ _ (fun k_ => (P0_ k_ ∨ w.heap.size ≤ k_) ∧ some k_ ≠ (.slice (some af) l0.length am : Value).ownBlock) (fun _ => False) rfl rfl ?aO ?aR (fun _ _ h => h) (fun _ h => h.elim) ?aF ?aB ?aS ?aL ?_; (case aR => exact rc_ (by repeat (first | (with_reducible exact HR126.out) | (with_reducible refine Kd.C_alloc ?_ _) | (with_reducible refine Kd.C_drewN ?_ _) | (with_reducible refine Kd.C_drew ?_) | exact HR126.out))); (case aB => exact (b0_ HB.out)); (case aF => exact (fun k_ hk => ⟨(.inr (Nat.le_trans (by first | exact HK.out.1 | exact (show Kept w _ (fun k_ => P0_ k_) from by exact zp3_0_ HK.out).1) hk)), Kd.fresh' (Kd.R_lt (rr_ ab.out)) k_ hk⟩)); (case aO => exact (by refine rr_ ?_; exact Kd.R_mono ay.out (fun _ hk => ⟨hk.1.1, hk.2⟩))); (case aS => exact (below_size (b0_ HB.out))); (case aL => have := LMc11.out; omega); intro ba w20 ho hb hg hat; rw [← aK.out] at ho; have n0_ := am_ (Kd.R_after (ok := (fun k_ => (P0_ k_ ∨ w.heap.size ≤ k_))) (rr_ ab.out) hg hat); have n1_ := am_ (hb); have n2_ := am_ (Kept.of_grown (S := (fun k_ => P0_ k_)) hg (zp3_0_ HK.out) (fun k_ e_ => (ay.out.1 k_ e_).1.1)); have n3_ := am_ ((show Kd.C (Kd.int .i64) w20 (some af) ag.length ag from by rw [ar.out]; exact Kd.C_take (m := (aa : Int).toNat) ((Kd.R_reads' (Kd.R_after (ok := (fun k_ => (P0_ k_ ∨ w.heap.size ≤ k_))) (rr_ ab.out) hg hat)).2.2) KL19.out)); have n4_ := am_ (ho); clear ab; clear HB; clear HK; clear HR126; clear ay; have ab := n0_; have HB := n1_; have HK := n2_; have HR126 := n3_; have az := n4_; clear n0_ n1_ n2_ n3_ n4_; clear ho hb hg hat) | ((with_reducible refine gate_builtin (b := .append) (xs := #[.tmp 39, .tmp 41]) rfl ?_); at_builtin; refine Kd.R_append (Kd.int .i64) (w0 := w0) w0.heap.size rfl (.tmp 39) (.tmp 41) 43 3 (.int .i64 0) 8 rfl Try.underlying43 info3 rfl (by decide) (by omega) ba ak a1 [.int .i64 a1] (fun k_ => (P0_ k_ ∨ w.heap.size ≤ k_) ∧ some k_ ≠ (.slice (some af) l0.length am : Value).ownBlock) (fun _ => False) rfl rfl ?aP (fun _ hk => hk.elim) ?aF ?aO ?aB ?aS ?aL ?_; (case aP => exact rfl); (case aB => exact (b0_ HB.out)); (case aF => exact (fun k_ hk => ⟨(.inr (Nat.le_trans (by first | exact HK.out.1 | exact (show Kept w _ (fun k_ => P0_ k_) from by exact zp3_0_ HK.out).1) hk)), Kd.fresh' (Kd.R_lt (rr_ ab.out)) k_ hk⟩)); (case aO => exact (rr_ az.out)); (case aS => exact (below_size (b0_ HB.out))); (case aL => have := LMc12.out; omega); intro bb w21 ho hb hg hat; rw [← aM.out] at ho; have n0_ := am_ (Kd.R_after (ok := (fun k_ => (P0_ k_ ∨ w.heap.size ≤ k_))) (rr_ ab.out) hg hat); have n1_ := am_ (hb); have n2_ := am_ (Kept.of_grown (S := (fun k_ => P0_ k_)) hg (zp3_0_ HK.out) (fun k_ e_ => (az.out.1 k_ e_).1)); have n3_ := am_ ((show Kd.C (Kd.int .i64) w21 (some af) ag.length ag from by rw [ar.out]; exact Kd.C_take (m := (aa : Int).toNat) ((Kd.R_reads' (Kd.R_after (ok := (fun k_ => (P0_ k_ ∨ w.heap.size ≤ k_))) (rr_ ab.out) hg hat)).2.2) KL19.out)); have n4_ := am_ (ho); clear ab; clear HB; clear HK; clear HR126; clear az; have ab := n0_; have HB := n1_; have HK := n2_; have HR126 := n3_; have aA := n4_; clear n0_ n1_ n2_ n3_ n4_; clear ho hb hg hat; have q22 : (aa : Int) ≤ ((l0.length : Int) : Int) := of_decide_eq_true ah_; obtain ⟨i022, hi022, _, hsz22, _⟩ := info_parts info3; have hroom22 : l0.length ≤ am := (Kd.R_reads' ab.out).2.1; have hC22 : Kd.C (Kd.int .i64) _ (some af) l0.length l0 := (Kd.R_reads' ab.out).2.2; have q022 : (0 : Int) ≤ (aa : Int) := of_decide_eq_true ah_; have hcut22 := cut_from (P := Try.prog) 43 3 .i64 Try.underlying43 hi022 1 hsz22 (some af) l0.length am aa q022 q22; have hr22 := Kd.C_drop (m := (aa : Int).toNat) (c := am) hC22 (by omega) hroom22; obtain ⟨A22, hA22⟩ : ∃ A1, A1 = (if am = (aa : Int).toNat then (some af) else ((some af) : Option Addr).map (·.add ((aa : Int).toNat * 1))) := ⟨_, rfl⟩; obtain ⟨c22, hc22⟩ : ∃ c1, c1 = am - (aa : Int).toNat := ⟨_, rfl⟩; have hy22 : ad.length = l0.length - (aa : Int).toNat := (by rw [ax.out, List.length_drop] <;> omega); rw [show (l0).drop (aa : Int).toNat = ad from ax.out.symm] at hr22; replace hr22 : Kd.C (Kd.int .i64) _ A22 ad.length ad := (by rw [hA22]; exact hr22); rw [← hy22, ← hA22, ← hc22] at hcut22; have HR136 := am_ hr22; have HC136 := am_ (show ad.length ≤ c22 from by rw [hy22, hc22]; exact Nat.sub_le_sub_right hroom22 _); clear hr22 hC22 hroom22 hi022 hsz22 hc22; have KY22 := am_ hy22; have KA22 := am_ hA22; clear hy22 hA22; have KL22 := am_ (show (aa : Int).toNat ≤ l0.length from by omega); replace q22 := eq_true q22) | ((with_reducible refine gate_builtin (b := .append) (xs := #[.tmp 43, .tmp 46]) rfl ?_); at_builtin; refine Kd.R_append_rows (Kd.int .i64) (w0 := w0) w0.heap.size rfl (.tmp 43) (.tmp 46) 43 3 (.int .i64 0) 8 rfl Try.underlying43 info3 rfl (by decide) (by omega) bb ah ad _ _ _ (fun k_ => (P0_ k_ ∨ w.heap.size ≤ k_) ∧ some k_ ≠ (.slice (some af) l0.length am : Value).ownBlock) (fun _ => False) rfl rfl ?aO ?aR (fun _ _ h => h) (fun _ h => h.elim) ?aF ?aB ?aS ?aL ?_; (case aR => exact rc_ (by repeat (first | (with_reducible exact HR136.out) | (with_reducible refine Kd.C_alloc ?_ _) | (with_reducible refine Kd.C_drewN ?_ _) | (with_reducible refine Kd.C_drew ?_) | exact HR136.out))); (case aB => exact (b0_ HB.out)); (case aF => exact (fun k_ hk => ⟨(.inr (Nat.le_trans (by first | exact HK.out.1 | exact (show Kept w _ (fun k_ => P0_ k_) from by exact zp3_0_ HK.out).1) hk)), Kd.fresh' (Kd.R_lt (rr_ ab.out)) k_ hk⟩)); (case aO => exact (rr_ aA.out)); (case aS => exact (below_size (b0_ HB.out))); (case aL => have := LMc15.out; omega); intro bi w23 ho hb hg hat; rw [← aN.out] at ho; have n0_ := am_ (Kd.R_after (ok := (fun k_ => (P0_ k_ ∨ w.heap.size ≤ k_))) (rr_ ab.out) hg hat); have n1_ := am_ (hb); have n2_ := am_ (Kept.of_grown (S := (fun k_ => P0_ k_)) hg (zp3_0_ HK.out) (fun k_ e_ => (aA.out.1 k_ e_).1)); have n3_ := am_ ((show Kd.C (Kd.int .i64) w23 (some af) ag.length ag from by rw [ar.out]; exact Kd.C_take (m := (aa : Int).toNat) ((Kd.R_reads' (Kd.R_after (ok := (fun k_ => (P0_ k_ ∨ w.heap.size ≤ k_))) (rr_ ab.out) hg hat)).2.2) KL19.out)); have n4_ := am_ ((show Kd.C (Kd.int .i64) w23 A22 ad.length ad from by rw [ax.out, KA22.out]; exact Kd.C_drop (m := (aa : Int).toNat) (c := am) ((Kd.R_reads' (Kd.R_after (ok := (fun k_ => (P0_ k_ ∨ w.heap.size ≤ k_))) (rr_ ab.out) hg hat)).2.2) KL22.out ((Kd.R_reads' (Kd.R_after (ok := (fun k_ => (P0_ k_ ∨ w.heap.size ≤ k_))) (rr_ ab.out) hg hat)).2.1))); have n5_ := am_ (ho); clear ab; clear HB; clear HK; clear HR126; clear HR136; clear aA; have ab := n0_; have HB := n1_; have HK := n2_; have HR126 := n3_; have HR136 := n4_; have aQ := n5_; clear n0_ n1_ n2_ n3_ n4_ n5_; clear ho hb hg hat))
           go_ret
           exact ⟨_, by first | rfl | (simp [errW_none, errW_some] <;> rfl) | (simp [*, errW_none, errW_some] <;> rfl), by refine rr_ ?_; exact Kd.R_mono aQ.out (fun _ hk => hk.1), by exact zp3_1_ HB.out, by exact zp3_0_ HK.out⟩
          ·rw [if_neg c15] at H
           exact absurd H (by simp)
         ·rw [if_neg c12] at H
          exact absurd H (by simp)
        ·rw [if_neg c11] at H
         exact absurd H (by simp)
       ·rw [if_neg c10] at H
        exact absurd H (by simp)
    ·rw [if_neg c4] at H
     exact absurd H (by simp)
   ·rw [if_neg c3] at H
    have c3b0 : decide (aa < (l0.length : Int)) = false := decide_eq_false c3
    clear c3
    obtain ⟨aq, hy140⟩ : ∃ y_ : List Int, y_ = (([] : List Int)) := ⟨_, rfl⟩
    replace H : (if 0 ≤ aa then (if aa ≤ (l0.length : Int) then ((some (l0.take (aa : Int).toNat : List Int)).bind fun ai => (if aq.length + ai.length < 17592186044416 then ((some (aq ++ ai : List Int)).bind fun al => (if al.length < 17592186044416 then ((some (al ++ [a1] : List Int)).bind fun aj => ((some (l0.drop (aa : Int).toNat : List Int)).bind fun ae => (if aj.length + ae.length < 17592186044416 then (some (aj ++ ae)) else (none)))) else (none))) else (none))) else (none)) else (none)) = some r := by first | (rw [hy140]; with_reducible exact H) | (have H2_ := (Option.bind_some _ _).symm.trans H; rw [hy140]; with_reducible exact H2_) | (have H2_ := (Option.bind_some _ _).symm.trans H; with_reducible exact H2_) | with_reducible exact H | (rw [hy140]; exact H) | exact H
    have aI := am_ hy140
    clear hy140
    by_cases c24 : 0 ≤ aa
    ·rw [if_pos c24] at H
     have c24b0 := eq_true c24
     have c24b1 : decide (0 ≤ aa) = true := decide_eq_true c24
     clear c24
     by_cases c25 : aa ≤ (l0.length : Int)
     ·rw [if_pos c25] at H
      have c25b0 := eq_true c25
      have c25b1 : decide (aa ≤ (l0.length : Int)) = true := decide_eq_true c25
      clear c25
      obtain ⟨ai, hy143⟩ : ∃ y_ : List Int, y_ = (l0.take (aa : Int).toNat) := ⟨_, rfl⟩
      replace H : (if aq.length + ai.length < 17592186044416 then ((some (aq ++ ai : List Int)).bind fun al => (if al.length < 17592186044416 then ((some (al ++ [a1] : List Int)).bind fun aj => ((some (l0.drop (aa : Int).toNat : List Int)).bind fun ae => (if aj.length + ae.length < 17592186044416 then (some (aj ++ ae)) else (none)))) else (none))) else (none)) = some r := by first | (rw [hy143]; with_reducible exact H) | (have H2_ := (Option.bind_some _ _).symm.trans H; rw [hy143]; with_reducible exact H2_) | (have H2_ := (Option.bind_some _ _).symm.trans H; with_reducible exact H2_) | with_reducible exact H | (rw [hy143]; exact H) | exact H
      have au := am_ hy143
      clear hy143
      by_cases c26 : aq.length + ai.length < 17592186044416
      ·rw [if_pos c26] at H
       have LMc26 := am_ c26
       clear c26
       obtain ⟨al, hy147⟩ : ∃ y_ : List Int, y_ = (aq ++ ai) := ⟨_, rfl⟩
       replace H : (if al.length < 17592186044416 then ((some (al ++ [a1] : List Int)).bind fun aj => ((some (l0.drop (aa : Int).toNat : List Int)).bind fun ae => (if aj.length + ae.length < 17592186044416 then (some (aj ++ ae)) else (none)))) else (none)) = some r := by first | (rw [hy147]; with_reducible exact H) | (have H2_ := (Option.bind_some _ _).symm.trans H; rw [hy147]; with_reducible exact H2_) | (have H2_ := (Option.bind_some _ _).symm.trans H; with_reducible exact H2_) | with_reducible exact H | (rw [hy147]; exact H) | exact H
       have aT := am_ hy147
       clear hy147
       by_cases c27 : al.length < 17592186044416
       ·rw [if_pos c27] at H
        have LMc27 := am_ c27
        clear c27
        obtain ⟨aj, hy150⟩ : ∃ y_ : List Int, y_ = (al ++ [a1]) := ⟨_, rfl⟩
        replace H : ((some (l0.drop (aa : Int).toNat : List Int)).bind fun ae => (if aj.length + ae.length < 17592186044416 then (some (aj ++ ae)) else (none))) = some r := by first | (rw [hy150]; with_reducible exact H) | (have H2_ := (Option.bind_some _ _).symm.trans H; rw [hy150]; with_reducible exact H2_) | (have H2_ := (Option.bind_some _ _).symm.trans H; with_reducible exact H2_) | with_reducible exact H | (rw [hy150]; exact H) | exact H
        have aU := am_ hy150
        clear hy150
        have c28b0 := eq_true (of_decide_eq_true ah_ : 0 ≤ aa)
        have c29b0 := eq_true (of_decide_eq_true ah_ : aa ≤ (l0.length : Int))
        obtain ⟨ae, hy153⟩ : ∃ y_ : List Int, y_ = (l0.drop (aa : Int).toNat) := ⟨_, rfl⟩
        replace H : (if aj.length + ae.length < 17592186044416 then (some (aj ++ ae)) else (none)) = some r := by first | (rw [hy153]; with_reducible exact H) | (have H2_ := (Option.bind_some _ _).symm.trans H; rw [hy153]; with_reducible exact H2_) | (have H2_ := (Option.bind_some _ _).symm.trans H; with_reducible exact H2_) | with_reducible exact H | (rw [hy153]; exact H) | exact H
        have aC := am_ hy153
        clear hy153
        by_cases c30 : aj.length + ae.length < 17592186044416
        ·rw [if_pos c30] at H
         have LMc30 := am_ c30
         clear c30
         obtain ⟨bc, hy157⟩ : ∃ y_ : List Int, y_ = (aj ++ ae) := ⟨_, rfl⟩
         replace H : (some bc) = some r := by first | (rw [hy157]; with_reducible exact H) | (have H2_ := (Option.bind_some _ _).symm.trans H; rw [hy157]; with_reducible exact H2_) | (have H2_ := (Option.bind_some _ _).symm.trans H; with_reducible exact H2_) | with_reducible exact H | (rw [hy157]; exact H) | exact H
         have aV := am_ hy157
         clear hy157
         obtain rfl := Option.some.inj H
         simp only [Option.some.injEq, Prod.mk.injEq] at H
         obtain ⟨rfl⟩ := H
         obtain ⟨an, ao, bd⟩ := Kd.R_slice ab.out
         subst bd
         go_wp2_with (first | ((with_reducible refine gate_dst (N := 34) rfl ?_); refine Kd.R_lit (Kd.int .i64) _ 3 ?hg (N := 34) ?hd (xs := ([] : List Int)) (inner := []) (ok := fun _ => True) (okp := fun _ => True) ?hr ?hp (fun _ hk => hk) trivial (Below.refl _ _) (Nat.le_refl _) (by simp) ?_; (case hd => rfl); (case hg => rfl); (case hr => first | (go_simp; done) | (go_simp; rfl)); (case hp => exact (Reps.none _ _)); intro be w32 ho33 hb hg_ hnew_; clear hg_ hnew_; (first | rw [← aI.out] at ho33 | (simp only [Int.reduceToNat] at ho33; rw [← aI.out] at ho33)); have n0_ := am_ (Kd.R_elder' (rr_ ab.out) (Kd.R_base ho33) hb); have n1_ := am_ (Kd.R_lower (Kd.R_new' (Kd.R_newM (M := fun k_ => (P0_ k_ ∨ w.heap.size ≤ k_)) ho33 (by first | exact HK.out.1 | exact (show Kept w _ (fun k_ => P0_ k_) from by exact zp3_0_ HK.out).1) (fun k_ h_ => .inr h_)) (Kd.R_lt (rr_ ab.out))) (below_size (b0_ HB.out))); have n2_ := am_ (Kept.below (S := (fun k_ => P0_ k_)) (zp3_0_ HK.out) hb); have n3_ := am_ (below_step (b0_ HB.out) hb); clear ab; clear HK; clear HB; have ab := n0_; have aD := n1_; have HK := n2_; have HB := n3_; clear n0_ n1_ n2_ n3_; clear hb ho33; have q34 : (aa : Int) ≤ ((l0.length : Int) : Int) := of_decide_eq_true ah_; obtain ⟨i034, hi034, _, hsz34, _⟩ := info_parts info3; have hroom34 : l0.length ≤ ao := (Kd.R_reads' ab.out).2.1; have hC34 : Kd.C (Kd.int .i64) _ an l0.length l0 := (Kd.R_reads' ab.out).2.2; have hcut34 := cut_to (P := Try.prog) 43 3 .i64 Try.underlying43 hi034 an l0.length ao aa (of_decide_eq_true ah_) q34 hroom34; have hr34 := Kd.C_take (m := (aa : Int).toNat) hC34 (by omega); have hy34 : ai.length = (aa : Int).toNat := (by rw [au.out, List.length_take]; omega); rw [← au.out] at hr34; rw [← hy34] at hcut34; have HR146 := am_ hr34; have HC146 := am_ (show ai.length ≤ ao from by omega); clear hr34 hC34 hroom34 hi034 hsz34; have KY34 := am_ hy34; clear hy34; have KL34 := am_ (show (aa : Int).toNat ≤ l0.length from by omega); replace q34 := eq_true q34) | ((with_reducible refine gate_builtin (b := .append) (xs := #[.tmp 34, .tmp 37]) rfl ?_); at_builtin; refine Kd.R_append_rows (Kd.int .i64) (w0 := w0) w0.heap.size rfl (.tmp 34) (.tmp 37) 43 3 (.int .i64 0) 8 rfl Try.underlying43 info3 rfl (by decide) (by omega) be aq ai _ _ _ (fun k_ => (P0_ k_ ∨ w.heap.size ≤ k_) ∧ some k_ ≠ (.slice an l0.length ao : Value).ownBlock) (fun _ => False) rfl rfl ?aO ?aR (fun _ _ h => h) (fun _ h => h.elim) ?aF ?aB ?aS ?aL ?_; (case aR => exact rc_ (by repeat (first | (with_reducible exact HR146.out) | (with_reducible refine Kd.C_alloc ?_ _) | (with_reducible refine Kd.C_drewN ?_ _) | (with_reducible refine Kd.C_drew ?_) | exact HR146.out))); (case aB => exact (b0_ HB.out)); (case aF => exact (fun k_ hk => ⟨(.inr (Nat.le_trans (by first | exact HK.out.1 | exact (show Kept w _ (fun k_ => P0_ k_) from by exact zp3_0_ HK.out).1) hk)), Kd.fresh' (Kd.R_lt (rr_ ab.out)) k_ hk⟩)); (case aO => exact (by refine rr_ ?_; exact Kd.R_mono aD.out (fun _ hk => ⟨hk.1.1, hk.2⟩))); (case aS => exact (below_size (b0_ HB.out))); (case aL => have := LMc26.out; omega); intro bf w35 ho hb hg hat; rw [← aT.out] at ho; have n0_ := am_ (Kd.R_after (ok := (fun k_ => (P0_ k_ ∨ w.heap.size ≤ k_))) (rr_ ab.out) hg hat); have n1_ := am_ (hb); have n2_ := am_ (Kept.of_grown (S := (fun k_ => P0_ k_)) hg (zp3_0_ HK.out) (fun k_ e_ => (aD.out.1 k_ e_).1.1)); have n3_ := am_ ((show Kd.C (Kd.int .i64) w35 an ai.length ai from by rw [au.out]; exact Kd.C_take (m := (aa : Int).toNat) ((Kd.R_reads' (Kd.R_after (ok := (fun k_ => (P0_ k_ ∨ w.heap.size ≤ k_))) (rr_ ab.out) hg hat)).2.2) KL34.out)); have n4_ := am_ (ho); clear ab; clear HB; clear HK; clear HR146; clear aD; have ab := n0_; have HB := n1_; have HK := n2_; have HR146 := n3_; have aE := n4_; clear n0_ n1_ n2_ n3_ n4_; clear ho hb hg hat) | ((with_reducible refine gate_builtin (b := .append) (xs := #[.tmp 39, .tmp 41]) rfl ?_); at_builtin; refine Kd.R_append (Kd.int .i64) (w0 := w0) w0.heap.size rfl (.tmp 39) (.tmp 41) 43 3 (.int .i64 0) 8 rfl Try.underlying43 info3 rfl (by decide) (by omega) bf al a1 [.int .i64 a1] (fun k_ => (P0_ k_ ∨ w.heap.size ≤ k_) ∧ some k_ ≠ (.slice an l0.length ao : Value).ownBlock) (fun _ => False) rfl rfl ?aP (fun _ hk => hk.elim) ?aF ?aO ?aB ?aS ?aL ?_; (case aP => exact rfl); (case aB => exact (b0_ HB.out)); (case aF => exact (fun k_ hk => ⟨(.inr (Nat.le_trans (by first | exact HK.out.1 | exact (show Kept w _ (fun k_ => P0_ k_) from by exact zp3_0_ HK.out).1) hk)), Kd.fresh' (Kd.R_lt (rr_ ab.out)) k_ hk⟩)); (case aO => exact (rr_ aE.out)); (case aS => exact (below_size (b0_ HB.out))); (case aL => have := LMc27.out; omega); intro bg w36 ho hb hg hat; rw [← aU.out] at ho; have n0_ := am_ (Kd.R_after (ok := (fun k_ => (P0_ k_ ∨ w.heap.size ≤ k_))) (rr_ ab.out) hg hat); have n1_ := am_ (hb); have n2_ := am_ (Kept.of_grown (S := (fun k_ => P0_ k_)) hg (zp3_0_ HK.out) (fun k_ e_ => (aE.out.1 k_ e_).1)); have n3_ := am_ ((show Kd.C (Kd.int .i64) w36 an ai.length ai from by rw [au.out]; exact Kd.C_take (m := (aa : Int).toNat) ((Kd.R_reads' (Kd.R_after (ok := (fun k_ => (P0_ k_ ∨ w.heap.size ≤ k_))) (rr_ ab.out) hg hat)).2.2) KL34.out)); have n4_ := am_ (ho); clear ab; clear HB; clear HK; clear HR146; clear aE; have ab := n0_; have HB := n1_; have HK := n2_; have HR146 := n3_; have aG := n4_; clear n0_ n1_ n2_ n3_ n4_; clear ho hb hg hat; have q37 : (aa : Int) ≤ ((l0.length : Int) : Int) := of_decide_eq_true ah_; obtain ⟨i037, hi037, _, hsz37, _⟩ := info_parts info3; have hroom37 : l0.length ≤ ao := (Kd.R_reads' ab.out).2.1; have hC37 : Kd.C (Kd.int .i64) _ an l0.length l0 := (Kd.R_reads' ab.out).2.2; have q037 : (0 : Int) ≤ (aa : Int) := of_decide_eq_true ah_; have hcut37 := cut_from (P := Try.prog) 43 3 .i64 Try.underlying43 hi037 1 hsz37 an l0.length ao aa q037 q37; have hr37 := Kd.C_drop (m := (aa : Int).toNat) (c := ao) hC37 (by omega) hroom37; obtain ⟨A37, hA37⟩ : ∃ A1, A1 = (if ao = (aa : Int).toNat then an else (an : Option Addr).map (·.add ((aa : Int).toNat * 1))) := ⟨_, rfl⟩; obtain ⟨c37, hc37⟩ : ∃ c1, c1 = ao - (aa : Int).toNat := ⟨_, rfl⟩; have hy37 : ae.length = l0.length - (aa : Int).toNat := (by rw [aC.out, List.length_drop] <;> omega); rw [show (l0).drop (aa : Int).toNat = ae from aC.out.symm] at hr37; replace hr37 : Kd.C (Kd.int .i64) _ A37 ae.length ae := (by rw [hA37]; exact hr37); rw [← hy37, ← hA37, ← hc37] at hcut37; have HR156 := am_ hr37; have HC156 := am_ (show ae.length ≤ c37 from by rw [hy37, hc37]; exact Nat.sub_le_sub_right hroom37 _); clear hr37 hC37 hroom37 hi037 hsz37 hc37; have KY37 := am_ hy37; have KA37 := am_ hA37; clear hy37 hA37; have KL37 := am_ (show (aa : Int).toNat ≤ l0.length from by omega); replace q37 := eq_true q37) | ((with_reducible refine gate_builtin (b := .append) (xs := #[.tmp 43, .tmp 46]) rfl ?_); at_builtin; refine Kd.R_append_rows (Kd.int .i64) (w0 := w0) w0.heap.size rfl (.tmp 43) (.tmp 46) 43 3 (.int .i64 0) 8 rfl Try.underlying43 info3 rfl (by decide) (by omega) bg aj ae _ _ _ (fun k_ => (P0_ k_ ∨ w.heap.size ≤ k_) ∧ some k_ ≠ (.slice an l0.length ao : Value).ownBlock) (fun _ => False) rfl rfl ?aO ?aR (fun _ _ h => h) (fun _ h => h.elim) ?aF ?aB ?aS ?aL ?_; (case aR => exact rc_ (by repeat (first | (with_reducible exact HR156.out) | (with_reducible refine Kd.C_alloc ?_ _) | (with_reducible refine Kd.C_drewN ?_ _) | (with_reducible refine Kd.C_drew ?_) | exact HR156.out))); (case aB => exact (b0_ HB.out)); (case aF => exact (fun k_ hk => ⟨(.inr (Nat.le_trans (by first | exact HK.out.1 | exact (show Kept w _ (fun k_ => P0_ k_) from by exact zp3_0_ HK.out).1) hk)), Kd.fresh' (Kd.R_lt (rr_ ab.out)) k_ hk⟩)); (case aO => exact (rr_ aG.out)); (case aS => exact (below_size (b0_ HB.out))); (case aL => have := LMc30.out; omega); intro bj w38 ho hb hg hat; rw [← aV.out] at ho; have n0_ := am_ (Kd.R_after (ok := (fun k_ => (P0_ k_ ∨ w.heap.size ≤ k_))) (rr_ ab.out) hg hat); have n1_ := am_ (hb); have n2_ := am_ (Kept.of_grown (S := (fun k_ => P0_ k_)) hg (zp3_0_ HK.out) (fun k_ e_ => (aG.out.1 k_ e_).1)); have n3_ := am_ ((show Kd.C (Kd.int .i64) w38 an ai.length ai from by rw [au.out]; exact Kd.C_take (m := (aa : Int).toNat) ((Kd.R_reads' (Kd.R_after (ok := (fun k_ => (P0_ k_ ∨ w.heap.size ≤ k_))) (rr_ ab.out) hg hat)).2.2) KL34.out)); have n4_ := am_ ((show Kd.C (Kd.int .i64) w38 A37 ae.length ae from by rw [aC.out, KA37.out]; exact Kd.C_drop (m := (aa : Int).toNat) (c := ao) ((Kd.R_reads' (Kd.R_after (ok := (fun k_ => (P0_ k_ ∨ w.heap.size ≤ k_))) (rr_ ab.out) hg hat)).2.2) KL37.out ((Kd.R_reads' (Kd.R_after (ok := (fun k_ => (P0_ k_ ∨ w.heap.size ≤ k_))) (rr_ ab.out) hg hat)).2.1))); have n5_ := am_ (ho); clear ab; clear HB; clear HK; clear HR146; clear HR156; clear aG; have ab := n0_; have HB := n1_; have HK := n2_; have HR146 := n3_; have HR156 := n4_; have aW := n5_; clear n0_ n1_ n2_ n3_ n4_ n5_; clear ho hb hg hat))
         go_ret
         exact ⟨_, by first | rfl | (simp [errW_none, errW_some] <;> rfl) | (simp [*, errW_none, errW_some] <;> rfl), by refine rr_ ?_; exact Kd.R_mono aW.out (fun _ hk => hk.1), by exact zp3_1_ HB.out, by exact zp3_0_ HK.out⟩
        ·rw [if_neg c30] at H
         exact absurd H (by simp)
       ·rw [if_neg c27] at H
        exact absurd H (by simp)
      ·rw [if_neg c26] at H
       exact absurd H (by simp)
     ·rw [if_neg c25] at H
      exact absurd H (by simp)
    ·rw [if_neg c24] at H
     exact absurd H (by simp)
end Go.Proofs.Ytpgdhpnmagmooaa.P
end
section
namespace Go.Proofs.Ytpgdhpnmagmooaa.Pl
open Go.RowKit Go.Proofs.YtpgdhpnmagmooaaW.PrintWords Go.Proofs.YtpgdhpnmagmooaaW.PrintLast Go.Proofs.YtpgdhpnmagmooaaW.PrintMore
set_option linter.unusedVariables false
set_option linter.unusedSimpArgs false
theorem next {α : Type} {g : Nat → Option α} {r : α} (h : Ev (fun k => g (k + 1)) r) : Ev g r := by
  obtain ⟨K, hK⟩ := h
  refine ⟨K + 1, fun k hk => ?_⟩
  obtain ⟨m, rfl⟩ : ∃ m, k = m + 1 := ⟨k - 1, by omega⟩
  exact hK m (by omega)
theorem ev_some {α : Type} {a b : α} (h : a = b) : Ev (fun _ => some a) b := by subst h; exact Ev.now a
theorem ev_eq {α : Type} {g : Nat → Option α} {a b : α} (h : Ev g a) (e : a = b) : Ev g b := e ▸ h
theorem w64 {x : Int} (h0 : -9223372036854775808 ≤ x) (h1 : x ≤ 9223372036854775807) : wrap64 x = x := by
  unfold wrap64
  omega
theorem up1 {i : Nat} (h : i < 9223372036854775807) : wrap64 ((i : Int) + 1) = ((i + 1 : Nat) : Int) := by
  rw [w64 (by omega) (by omega)]
  omega
theorem rd_get (xs : List Int) (i : Nat) (h : i < xs.length) : rd xs i = xs[i] := by
  simp [rd, List.getD_eq_getElem?_getD, h]
theorem rdOf_get {α : Type} (z : α) (xs : List α) (i : Nat) (h : i < xs.length) : rdOf z xs i = xs[i] := by
  simp [rdOf, List.getD_eq_getElem?_getD, h]
end Go.Proofs.Ytpgdhpnmagmooaa.Pl
end
section
namespace Go.Proofs.Ytpgdhpnmagmooaa
open Go.RowKit Go.Shelf Go.Proofs.Ytpgdhpnmagmooaa.P Go.Proofs.YtpgdhpnmagmooaaW.PrintWords Go.Proofs.YtpgdhpnmagmooaaW.PrintLast Go.Proofs.YtpgdhpnmagmooaaW.PrintMore
set_option linter.unusedVariables false
structure Pc where
  P : World → List Nat → Prop
  mv : ∀ {w w' : World} {fp : List Nat}, P w fp → (∀ k ∈ fp, w'.heap[k]? = w.heap[k]?) → P w' fp
  lt : ∀ {w : World} {fp : List Nat}, P w fp → ∀ k ∈ fp, k < w.heap.size
def SlF (w : World) : List Pc → List Nat → Prop
  | [], fp => fp = []
  | p :: ps, fp => ∃ f1 f2, fp = f1 ++ f2 ∧ p.P w f1 ∧ SlF w ps f2
structure Sl (w0 w : World) (ps : List Pc) : Prop where
  bel : Below w0.heap.size w0 w
  own : ∃ fp, SlF w ps fp ∧ fp.Nodup ∧ ∀ k ∈ fp, w0.heap.size ≤ k
section
variable {w0 w w' w1 : World} {ps qs : List Pc} {p q : Pc} {fp : List Nat} {i j : Nat}
theorem SlF.mv : ∀ {ps : List Pc} {fp : List Nat}, SlF w ps fp → (∀ k ∈ fp, w'.heap[k]? = w.heap[k]?) → SlF w' ps fp
  | [], _, h, _ => h
  | p :: ps, _, ⟨f1, f2, e, h1, h2⟩, hm => ⟨f1, f2, e, p.mv h1 (fun k hk => hm k (by rw [e]; exact List.mem_append_left _ hk)), SlF.mv h2 (fun k hk => hm k (by rw [e]; exact List.mem_append_right _ hk))⟩
theorem SlF.lt : ∀ {ps : List Pc} {fp : List Nat}, SlF w ps fp → ∀ k ∈ fp, k < w.heap.size
  | [], _, h, k, hk => by rw [h] at hk; cases hk
  | p :: ps, _, ⟨f1, f2, e, h1, h2⟩, k, hk => by
    rw [e] at hk
    rcases List.mem_append.1 hk with hk | hk
    · exact p.lt h1 k hk
    · exact SlF.lt h2 k hk
theorem SlF.app : ∀ {ps : List Pc} {f g : List Nat}, SlF w ps f → SlF w qs g → SlF w (ps ++ qs) (f ++ g)
  | [], _, _, h, h2 => by rw [h]; exact h2
  | p :: ps, _, g, ⟨f1, f2, e, h1, h2⟩, h3 => ⟨f1, f2 ++ g, by rw [e, List.append_assoc], h1, SlF.app h2 h3⟩
theorem SlF.take : ∀ {ps : List Pc} {f : List Nat} (n : Nat), SlF w ps f → ∃ g, SlF w (ps.take n) g ∧ List.Sublist g f
  | ps, f, 0, h => ⟨[], rfl, List.nil_sublist _⟩
  | [], _, n + 1, h => ⟨[], rfl, List.nil_sublist _⟩
  | p :: ps, _, n + 1, ⟨f1, f2, e, h1, h2⟩ => by
    obtain ⟨g, h3, h4⟩ := SlF.take n h2
    exact ⟨f1 ++ g, ⟨f1, g, rfl, h1, h3⟩, by rw [e]; exact List.Sublist.append_left h4 _⟩
theorem SlF.at_ : ∀ {ps : List Pc} {i : Nat} {fp : List Nat}, SlF w ps fp → ps[i]? = some p →
    ∃ f fr, p.P w f ∧ fp.Perm (f ++ fr) ∧ ∀ (w' : World) (q : Pc) (f' : List Nat), (∀ k ∈ fr, w'.heap[k]? = w.heap[k]?) → q.P w' f' → ∃ fp', SlF w' (ps.set i q) fp' ∧ fp'.Perm (f' ++ fr)
  | [], i, _, _, h => by cases i <;> cases h
  | r :: ps, 0, _, ⟨f1, f2, e, h1, h2⟩, h => by
    obtain rfl := Option.some.inj h
    exact ⟨f1, f2, h1, by rw [e], fun w' q f' hk hq => ⟨f' ++ f2, ⟨f', f2, rfl, hq, SlF.mv h2 hk⟩, List.Perm.refl _⟩⟩
  | r :: ps, i + 1, _, ⟨f1, f2, e, h1, h2⟩, h => by
    obtain ⟨f, fr, h3, h4, h5⟩ := SlF.at_ h2 (by simpa using h)
    refine ⟨f, f1 ++ fr, h3, ?_, fun w' q f' hk hq => ?_⟩
    · rw [e]
      exact (List.Perm.append_left f1 h4).trans (by rw [← List.append_assoc, ← List.append_assoc]; exact List.Perm.append_right fr List.perm_append_comm)
    · obtain ⟨g, h6, h7⟩ := h5 w' q f' (fun k hk' => hk k (List.mem_append_right _ hk')) hq
      refine ⟨f1 ++ g, ⟨f1, g, rfl, r.mv h1 (fun k hk' => hk k (List.mem_append_left _ hk')), h6⟩, ?_⟩
      exact (List.Perm.append_left f1 h7).trans (by rw [← List.append_assoc, ← List.append_assoc]; exact List.Perm.append_right fr List.perm_append_comm)
theorem Sl.start (w : World) : Sl w w [] := ⟨Below.refl _ _, [], rfl, List.nodup_nil, fun k hk => by cases hk⟩
theorem Sl.only (H : Sl w0 w ps) (hb : Below w.heap.size w w') : Sl w0 w' ps := by
  obtain ⟨fp, h1, h2, h3⟩ := H.own
  exact ⟨below_then H.bel H.bel.size hb, fp, SlF.mv h1 (fun k hk => hb.block k (SlF.lt h1 k hk)), h2, h3⟩
theorem Sl.drew (H : Sl w0 w ps) : Sl w0 w.drew ps := H.only (below_drew1 (Below.refl _ _))
theorem Sl.call (H : Sl w0 w ps) (K : Sl w w' qs) : Sl w0 w' (ps ++ qs) := by
  obtain ⟨fp, h1, h2, h3⟩ := H.own
  obtain ⟨gp, g1, g2, g3⟩ := K.own
  refine ⟨below_then H.bel H.bel.size K.bel, fp ++ gp, SlF.app (SlF.mv h1 (fun k hk => K.bel.block k (SlF.lt h1 k hk))) g1, List.nodup_append.2 ⟨h2, g2, fun a ha b hb e => ?_⟩, fun k hk => ?_⟩
  · have := SlF.lt h1 a ha
    have := g3 b hb
    omega
  · rcases List.mem_append.1 hk with hk | hk
    · exact h3 k hk
    · exact Nat.le_trans H.bel.size (g3 k hk)
theorem Sl.opn (H : Sl w0 w ps) (i : Nat) (hi : ps[i]? = some p) : ∃ f, p.P w f ∧ f.Nodup ∧ (∀ k ∈ f, w0.heap.size ≤ k) ∧ ∀ (w' : World) (q : Pc) (f' : List Nat), Below w0.heap.size w0 w' → q.P w' f' → f'.Nodup → (∀ k ∈ f', k ∈ f ∨ w.heap.size ≤ k) → (∀ k, k < w.heap.size → k ∉ f → w'.heap[k]? = w.heap[k]?) → Sl w0 w' (ps.set i q) := by
  obtain ⟨fp, h1, h2, h3⟩ := H.own
  obtain ⟨f, fr, h4, h5, h6⟩ := SlF.at_ h1 hi
  have hn := (List.Perm.nodup_iff h5).1 h2
  obtain ⟨n1, n2, n3⟩ := List.nodup_append.1 hn
  have hlt : ∀ k ∈ fr, k < w.heap.size := fun k hk => SlF.lt h1 k (h5.mem_iff.2 (List.mem_append_right _ hk))
  refine ⟨f, h4, n1, fun k hk => h3 k (h5.mem_iff.2 (List.mem_append_left _ hk)), fun w' q f' hb hq hd hf hk => ?_⟩
  obtain ⟨gp, g1, g2⟩ := h6 w' q f' (fun k hkr => hk k (hlt k hkr) (fun hkf => n3 k hkf k hkr rfl)) hq
  refine ⟨hb, gp, g1, (List.Perm.nodup_iff g2).2 (List.nodup_append.2 ⟨hd, n2, fun a ha b hb' e => ?_⟩), fun k hk' => ?_⟩
  · subst e
    rcases hf a ha with hf | hf
    · exact n3 a hf a hb' rfl
    · exact absurd (hlt a hb') (by omega)
  · rcases List.mem_append.1 (g2.mem_iff.1 hk') with hk' | hk'
    · rcases hf k hk' with hf | hf
      · exact h3 k (h5.mem_iff.2 (List.mem_append_left _ hf))
      · exact Nat.le_trans H.bel.size hf
    · exact h3 k (h5.mem_iff.2 (List.mem_append_right _ hk'))
theorem Sl.upd (H : Sl w0 w ps) (i : Nat) (hi : ps[i]? = some p) (hb : Below w0.heap.size w0 w')
    (h : ∀ f, p.P w f → f.Nodup → (∀ k ∈ f, w0.heap.size ≤ k) → ∃ f', q.P w' f' ∧ f'.Nodup ∧ (∀ k ∈ f', k ∈ f ∨ w.heap.size ≤ k) ∧ ∀ k, k < w.heap.size → k ∉ f → w'.heap[k]? = w.heap[k]?) : Sl w0 w' (ps.set i q) := by
  obtain ⟨f, h1, h2, h3, h4⟩ := H.opn i hi
  obtain ⟨f', k1, k2, k3, k4⟩ := h f h1 h2 h3
  exact h4 w' q f' hb k1 k2 k3 k4
def emp : Pc := ⟨fun _ fp => fp = [], fun h _ => h, fun h k hk => by rw [h] at hk; cases hk⟩
def both (p q : Pc) : Pc := ⟨fun w fp => ∃ f1 f2, fp = f1 ++ f2 ∧ p.P w f1 ∧ q.P w f2,
  fun ⟨f1, f2, e, h1, h2⟩ hm => ⟨f1, f2, e, p.mv h1 (fun k hk => hm k (by rw [e]; exact List.mem_append_left _ hk)), q.mv h2 (fun k hk => hm k (by rw [e]; exact List.mem_append_right _ hk))⟩,
  fun ⟨f1, f2, e, h1, h2⟩ k hk => by
    rw [e] at hk
    rcases List.mem_append.1 hk with hk | hk
    · exact p.lt h1 k hk
    · exact q.lt h2 k hk⟩
theorem Sl.get (H : Sl w0 w ps) (i : Nat) (hi : ps[i]? = some p) : ∃ f, p.P w f ∧ f.Nodup ∧ ∀ k ∈ f, w0.heap.size ≤ k := by
  obtain ⟨fp, h1, h2, h3⟩ := H.own
  obtain ⟨f, fr, h4, h5, _⟩ := SlF.at_ h1 hi
  exact ⟨f, h4, (List.nodup_append.1 ((List.Perm.nodup_iff h5).1 h2)).1, fun k hk => h3 k (h5.mem_iff.2 (List.mem_append_left _ hk))⟩
theorem Sl.drop (H : Sl w0 w ps) (i : Nat) (hi : ps[i]? = some p) : Sl w0 w (ps.set i emp) :=
  H.upd i hi H.bel (fun f hp hn _ => ⟨[], rfl, List.nodup_nil, (fun k hk => by cases hk), fun _ _ _ => rfl⟩)
theorem Sl.one (H : Sl w0 w ps) (i : Nat) (hi : ps[i]? = some p := by rfl) : Sl w0 w [p] := by
  obtain ⟨f, h1, h2, h3⟩ := H.get i hi
  exact ⟨H.bel, f ++ [], ⟨f, [], rfl, h1, rfl⟩, by simpa using h2, by simpa using h3⟩
def bx (g : Nat) (cs : Array Value) (t : TypeId) : Pc := ⟨fun w fp => fp = [g] ∧ w.heap[g]? = some (.cells cs t (0, 0)), fun ⟨e, h⟩ hm => ⟨e, (hm g (by rw [e]; exact List.mem_singleton.2 rfl)).trans h⟩, fun ⟨e, h⟩ k hk => by
  rw [e] at hk
  rw [List.mem_singleton.1 hk]
  exact blk_lt h⟩
theorem Sl.blk (H : Sl w0 w ps) (i : Nat) {g : Nat} {cs : Array Value} {t : TypeId} (hi : ps[i]? = some (bx g cs t)) : w.heap[g]? = some (.cells cs t (0, 0)) := by
  obtain ⟨f, ⟨_, h⟩, _⟩ := H.get i hi
  exact h
theorem Sl.new (H : Sl w0 w ps) (cs : Array Value) (t : TypeId) : Sl w0 (w.alloc (.cells cs t (0, 0))) (ps ++ [bx w.heap.size cs t]) :=
  H.call ⟨below_alloc (Below.refl _ _) _, [w.heap.size], ⟨[w.heap.size], [], by simp, ⟨rfl, blk_new _ _⟩, rfl⟩, by simp, by simp⟩
theorem Sl.put (H : Sl w0 w ps) (i : Nat) {g : Nat} {cs : Array Value} {t : TypeId} (hi : ps[i]? = some (bx g cs t)) (j : Nat) (u : Value) : Sl w0 (w.setCell ⟨g, j, none⟩ u) (ps.set i (bx g (cs.setIfInBounds j u) t)) := by
  obtain ⟨f, ⟨e, h⟩, _, hg⟩ := H.get i hi
  refine H.upd i hi (below_set H.bel (hg g (by rw [e]; exact List.mem_singleton.2 rfl))) (fun f hp hn _ => ⟨[g], ⟨rfl, blk_set h j u⟩, by simp, fun k hk => Or.inl (by rw [hp.1]; exact hk), fun k _ hk => Below.heap_setCell w ⟨g, j, none⟩ u k (fun e => hk (by rw [hp.1, e]; exact List.mem_singleton.2 rfl))⟩)
theorem Sl.f1 (H : Sl w0 w ps) (i : Nat) {g : Nat} {x : Value} {t : TypeId} (hi : ps[i]? = some (bx g #[x] t) := by rfl) : w.cell? ⟨g, 0, none⟩ = some x ∧ w.frozen? ⟨g, 0, none⟩ = false := by
  have h := H.blk i hi
  exact ⟨blk_cell h 0, blk_frozen h 0⟩
theorem Sl.f2 (H : Sl w0 w ps) (i : Nat) {g : Nat} {x y : Value} {t : TypeId} (hi : ps[i]? = some (bx g #[x, y] t) := by rfl) : (w.cell? ⟨g, 0, none⟩ = some x ∧ w.frozen? ⟨g, 0, none⟩ = false) ∧ w.cell? ⟨g, 1, none⟩ = some y ∧ w.frozen? ⟨g, 1, none⟩ = false := by
  have h := H.blk i hi
  exact ⟨⟨blk_cell h 0, blk_frozen h 0⟩, blk_cell h 1, blk_frozen h 1⟩
theorem Sl.f3 (H : Sl w0 w ps) (i : Nat) {g : Nat} {x y z : Value} {t : TypeId} (hi : ps[i]? = some (bx g #[x, y, z] t) := by rfl) : (w.cell? ⟨g, 0, none⟩ = some x ∧ w.frozen? ⟨g, 0, none⟩ = false) ∧ (w.cell? ⟨g, 1, none⟩ = some y ∧ w.frozen? ⟨g, 1, none⟩ = false) ∧ w.cell? ⟨g, 2, none⟩ = some z ∧ w.frozen? ⟨g, 2, none⟩ = false := by
  have h := H.blk i hi
  exact ⟨⟨blk_cell h 0, blk_frozen h 0⟩, ⟨blk_cell h 1, blk_frozen h 1⟩, blk_cell h 2, blk_frozen h 2⟩
end
section
variable {P : Program} {ops : Array Oper} {rest : List Oper} {o : Oper} {a : Act} {Q : Exit → Act → World → Prop} {Kc : Act → World → Prop} {w0 W : World} {ps : List Pc}
theorem nw_ (H : Sl w0 W ps) (N : Tmp) (cs : Array Value) (t : TypeId) (hd : o.dst = some N)
    (h : ∀ g w1, Sl w0 w1 (ps ++ [bx g cs t]) → wpList P ops Q rest (a.put o.dst (.pointer (some ⟨g, 0, none⟩))) w1) (hgd : o.guard = none := by rfl)
    (hrun : (execOp a.eval o).run P W = .ok (.value (.pointer (some ⟨W.heap.size, 0, none⟩))) (W.alloc (.cells cs t (0, 0))) := by first | (go_simp; done) | (go_simp; rfl)) : wpList P ops Q (o :: rest) a W :=
  Kd.event_run hgd hrun (h _ _ (H.new cs t))
end
end Go.Proofs.Ytpgdhpnmagmooaa
end
section
namespace Go.Proofs.Ytpgdhpnmagmooaa.P
open Go.RowKit Go.Proofs.YtpgdhpnmagmooaaW.PrintWords Go.Proofs.YtpgdhpnmagmooaaW.PrintLast Go.Proofs.YtpgdhpnmagmooaaW.PrintMore
set_option linter.unusedVariables false
set_option linter.unusedSimpArgs false
theorem zputc_0_ {p q : Prop} (h : p) (c : p → q := by intro h_; repeat (first | (with_reducible first | exact h_ | apply Kept.alloc | apply Kept.drewN | apply Kept.drew) | exact h_)) : q := c h
theorem zputc_1_ {p q : Prop} (h : p) (c : p → q := by intro h_; repeat (first | (with_reducible first | exact h_ | apply below_alloc | apply pw_below_drewN | apply below_drew1) | exact h_)) : q := c h
set_option maxHeartbeats 8000000 in
set_option maxRecDepth 100000 in
theorem spec_l6Put.calls2 (k : Nat) (P0_ : Nat → Prop) (u9000_ : Value) (l0 : List Int) (a1 : Int) (r : List Int) (w0 w : World) (hB : Below w0.heap.size w0 w) (ho0 : Kd.R (Kd.int .i64) 3 w w0.heap.size P0_ u9000_ l0) (h : spec_l6Put.f k l0 a1 = some r) :
  Calls Try.prog 25 #[u9000_, .int .i64 a1] w fun e w' => ∃ v0_ : Value, e = .returned (v0_) ∧ (((v0_ = u9000_ ∧ r = l0)) ∨ Kd.R (Kd.int .i64) 3 w' w0.heap.size (fun k_ => ((P0_ k_ ∨ w.heap.size ≤ k_) ∧ some k_ ≠ u9000_.ownBlock)) v0_ r) ∧ Kd.R (Kd.int .i64) 3 w' w0.heap.size (fun k_ => (P0_ k_ ∨ w.heap.size ≤ k_)) u9000_ l0 ∧ Below w0.heap.size w0 w' ∧ Kept w w' (fun k_ => P0_ k_) := by
 have HO0 := am_ (show Kd.R (Kd.int .i64) 3 w w0.heap.size (fun k_ => (P0_ k_ ∨ w.heap.size ≤ k_)) u9000_ l0 from Kd.R_mono ho0 (fun k_ hk => (.inl hk)))
 have HK := am_ (Kept.refl w (fun k_ => P0_ k_))
 have HW0 := am_ hB.size
 have HB := am_ hB
 clear hB
 have H : (spec_l6Put.l0 k l0 a1 0) = some r := h
 clear h
 have H' := am_ H
 clear H
 go_enter Try.func25, Try.ntmps25
 go_wp2
 go_loopg [5] k (fun kq v5 w' => ∃ (aa : Int), v5 = .int .i64 aa ∧ Aside0 (spec_l6Put.l0 kq l0 a1 aa = some r) ∧ Aside0 (kq ≤ k) ∧ Aside0 (Kd.R (Kd.int .i64) 3 w' w0.heap.size (fun k_ => (P0_ k_ ∨ w.heap.size ≤ k_)) u9000_ l0) ∧ Aside0 (Kept w w' (fun k_ => P0_ k_)) ∧ Aside0 (Below w0.heap.size w0 w'))
 case atStart => exact ⟨(0), (by first | rfl | (simp; done) | (simp [*]; done)), H', ⟨Nat.le_refl _⟩, ⟨by refine rr_ ?_; exact HO0.out⟩, ⟨by exact zputc_0_ HK.out⟩, ⟨by exact zputc_1_ HB.out⟩⟩
 case round =>
  clear H'
  try clear c2
  try clear p2
  obtain ⟨aa, rfl, HA, HK1, ab, HK, HB⟩ := hrel
  cases gk with
  | zero => exact absurd HA.out (by simp [spec_l6Put.l0])
  | succ k1 =>
   have H := HA.out
   clear HA
   simp only [spec_l6Put.l0] at H
   by_cases c3 : aa < (l0.length : Int)
   ·rw [if_pos c3] at H
    have c3b0 : decide (aa < (l0.length : Int)) = true := decide_eq_true c3
    clear c3
    by_cases c4 : 0 ≤ aa
    ·rw [if_pos c4] at H
     have c4b0 : decide (0 ≤ aa) = true := decide_eq_true c4
     clear c4
     by_cases c5 : (rd l0 aa) < a1
     ·rw [if_pos c5] at H
      have c5b0 : decide ((rd l0 aa) < a1) = true := decide_eq_true c5
      clear c5
      have H' := am_ H
      clear H
      obtain ⟨Ao6, co6, eo6⟩ := Kd.R_slice ab.out
      subst eo6
      have p118 : 0 ≤ (aa : Int) := of_decide_eq_true ah_
      have q118 : aa < (l0.length : Int) := of_decide_eq_true ah_
      obtain ⟨af, e118, av⟩ := Kd.at_int (Kd.R_reads' ab.out).2.2 aa p118 q118
      cases e118
      replace p118 := eq_true p118
      replace q118 := eq_true q118
      go_wp2
      go_roundg k1
      case measure => have := HK1.out; omega
      case rel => exact ⟨(wrap64 (aa + 1)), (by first | rfl | (simp; done) | (simp [*]; done)), H', ⟨by have := HK1.out; omega⟩, ⟨by refine rr_ ?_; exact ab.out⟩, ⟨by exact zputc_0_ HK.out⟩, ⟨by exact zputc_1_ HB.out⟩⟩
     ·rw [if_neg c5] at H
      have c5b0 : decide ((rd l0 aa) < a1) = false := decide_eq_false c5
      clear c5
      by_cases c7 : (rd l0 aa) = a1
      ·rw [if_pos c7] at H
       have c7b0 : ((rd l0 aa) == a1) = true := beq_iff_eq.mpr c7
       have c7b1 : ((rd l0 aa) != a1) = false := bne_eq_false_iff_eq.mpr c7
       clear c7
       obtain rfl := Option.some.inj H
       simp only [Option.some.injEq, Prod.mk.injEq] at H
       obtain ⟨rfl⟩ := H
       obtain ⟨Ao8, co8, eo8⟩ := Kd.R_slice ab.out
       subst eo8
       have p118 : 0 ≤ (aa : Int) := of_decide_eq_true ah_
       have q118 : aa < (l0.length : Int) := of_decide_eq_true ah_
       obtain ⟨af, e118, av⟩ := Kd.at_int (Kd.R_reads' ab.out).2.2 aa p118 q118
       cases e118
       replace p118 := eq_true p118
       replace q118 := eq_true q118
       have p119 : 0 ≤ (aa : Int) := of_decide_eq_true ah_
       have q119 : aa < (l0.length : Int) := of_decide_eq_true ah_
       obtain ⟨aw, e119, aJ⟩ := Kd.at_int (Kd.R_reads' ab.out).2.2 aa p119 q119
       obtain rfl : af = aw := (by injection e119)
       replace p119 := eq_true p119
       replace q119 := eq_true q119
       go_wp2
       go_ret
       exact ⟨_, by first | rfl | (simp [errW_none, errW_some] <;> rfl) | (simp [*, errW_none, errW_some] <;> rfl), (by first | exact Or.inl ⟨rfl, rfl⟩ | exact Or.inl rfl | simp), by refine rr_ ?_; exact ab.out, by exact zputc_1_ HB.out, by exact zputc_0_ HK.out⟩
      ·rw [if_neg c7] at H
       have c7b0 : ((rd l0 aa) == a1) = false := beq_eq_false_iff_ne.mpr c7
       have c7b1 : ((rd l0 aa) != a1) = true := bne_iff_ne.mpr c7
       obtain ⟨ap, hy120⟩ : ∃ y_ : List Int, y_ = (([] : List Int)) := ⟨_, rfl⟩
       replace H : (if aa ≤ (l0.length : Int) then ((some (l0.take (aa : Int).toNat : List Int)).bind fun ag => (if ap.length + ag.length < 17592186044416 then ((some (ap ++ ag : List Int)).bind fun an => (if an.length < 17592186044416 then ((some (an ++ [a1] : List Int)).bind fun ah => ((some (l0.drop (aa : Int).toNat : List Int)).bind fun ad => (if ah.length + ad.length < 17592186044416 then (some (ah ++ ad)) else (none)))) else (none))) else (none))) else (none)) = some r := by first | (rw [hy120]; with_reducible exact H) | (have H2_ := (Option.bind_some _ _).symm.trans H; rw [hy120]; with_reducible exact H2_) | (have H2_ := (Option.bind_some _ _).symm.trans H; with_reducible exact H2_) | with_reducible exact H | (rw [hy120]; exact H) | exact H
       have aH := am_ hy120
       clear hy120
       have c9b0 := eq_true (of_decide_eq_true ah_ : 0 ≤ aa)
       by_cases c10 : aa ≤ (l0.length : Int)
       ·rw [if_pos c10] at H
        have c10b0 := eq_true c10
        have c10b1 : decide (aa ≤ (l0.length : Int)) = true := decide_eq_true c10
        clear c10
        obtain ⟨ag, hy123⟩ : ∃ y_ : List Int, y_ = (l0.take (aa : Int).toNat) := ⟨_, rfl⟩
        replace H : (if ap.length + ag.length < 17592186044416 then ((some (ap ++ ag : List Int)).bind fun an => (if an.length < 17592186044416 then ((some (an ++ [a1] : List Int)).bind fun ah => ((some (l0.drop (aa : Int).toNat : List Int)).bind fun ad => (if ah.length + ad.length < 17592186044416 then (some (ah ++ ad)) else (none)))) else (none))) else (none)) = some r := by first | (rw [hy123]; with_reducible exact H) | (have H2_ := (Option.bind_some _ _).symm.trans H; rw [hy123]; with_reducible exact H2_) | (have H2_ := (Option.bind_some _ _).symm.trans H; with_reducible exact H2_) | with_reducible exact H | (rw [hy123]; exact H) | exact H
        have ar := am_ hy123
        clear hy123
        by_cases c11 : ap.length + ag.length < 17592186044416
        ·rw [if_pos c11] at H
         have LMc11 := am_ c11
         clear c11
         obtain ⟨an, hy127⟩ : ∃ y_ : List Int, y_ = (ap ++ ag) := ⟨_, rfl⟩
         replace H : (if an.length < 17592186044416 then ((some (an ++ [a1] : List Int)).bind fun ah => ((some (l0.drop (aa : Int).toNat : List Int)).bind fun ad => (if ah.length + ad.length < 17592186044416 then (some (ah ++ ad)) else (none)))) else (none)) = some r := by first | (rw [hy127]; with_reducible exact H) | (have H2_ := (Option.bind_some _ _).symm.trans H; rw [hy127]; with_reducible exact H2_) | (have H2_ := (Option.bind_some _ _).symm.trans H; with_reducible exact H2_) | with_reducible exact H | (rw [hy127]; exact H) | exact H
         have aK := am_ hy127
         clear hy127
         by_cases c12 : an.length < 17592186044416
         ·rw [if_pos c12] at H
          have LMc12 := am_ c12
          clear c12
          obtain ⟨ah, hy130⟩ : ∃ y_ : List Int, y_ = (an ++ [a1]) := ⟨_, rfl⟩
          replace H : ((some (l0.drop (aa : Int).toNat : List Int)).bind fun ad => (if ah.length + ad.length < 17592186044416 then (some (ah ++ ad)) else (none))) = some r := by first | (rw [hy130]; with_reducible exact H) | (have H2_ := (Option.bind_some _ _).symm.trans H; rw [hy130]; with_reducible exact H2_) | (have H2_ := (Option.bind_some _ _).symm.trans H; with_reducible exact H2_) | with_reducible exact H | (rw [hy130]; exact H) | exact H
          have aM := am_ hy130
          clear hy130
          have c13b0 := eq_true (of_decide_eq_true ah_ : 0 ≤ aa)
          have c14b0 := eq_true (of_decide_eq_true ah_ : aa ≤ (l0.length : Int))
          obtain ⟨ad, hy133⟩ : ∃ y_ : List Int, y_ = (l0.drop (aa : Int).toNat) := ⟨_, rfl⟩
          replace H : (if ah.length + ad.length < 17592186044416 then (some (ah ++ ad)) else (none)) = some r := by first | (rw [hy133]; with_reducible exact H) | (have H2_ := (Option.bind_some _ _).symm.trans H; rw [hy133]; with_reducible exact H2_) | (have H2_ := (Option.bind_some _ _).symm.trans H; with_reducible exact H2_) | with_reducible exact H | (rw [hy133]; exact H) | exact H
          have ax := am_ hy133
          clear hy133
          by_cases c15 : ah.length + ad.length < 17592186044416
          ·rw [if_pos c15] at H
           have LMc15 := am_ c15
           clear c15
           obtain ⟨aX, hy137⟩ : ∃ y_ : List Int, y_ = (ah ++ ad) := ⟨_, rfl⟩
           replace H : (some aX) = some r := by first | (rw [hy137]; with_reducible exact H) | (have H2_ := (Option.bind_some _ _).symm.trans H; rw [hy137]; with_reducible exact H2_) | (have H2_ := (Option.bind_some _ _).symm.trans H; with_reducible exact H2_) | with_reducible exact H | (rw [hy137]; exact H) | exact H
           have aN := am_ hy137
           clear hy137
           obtain rfl := Option.some.inj H
           simp only [Option.some.injEq, Prod.mk.injEq] at H
           obtain ⟨rfl⟩ := H
           obtain ⟨bh, ak, aY⟩ := Kd.R_slice ab.out
           subst aY
           have p118 : 0 ≤ (aa : Int) := of_decide_eq_true ah_
           have q118 : aa < (l0.length : Int) := of_decide_eq_true ah_
           obtain ⟨af, e118, av⟩ := Kd.at_int (Kd.R_reads' ab.out).2.2 aa p118 q118
           cases e118
           replace p118 := eq_true p118
           replace q118 := eq_true q118
           have p119 : 0 ≤ (aa : Int) := of_decide_eq_true ah_
           have q119 : aa < (l0.length : Int) := of_decide_eq_true ah_
           obtain ⟨aw, e119, aJ⟩ := Kd.at_int (Kd.R_reads' ab.out).2.2 aa p119 q119
           obtain rfl : af = aw := (by injection e119)
           replace p119 := eq_true p119
           replace q119 := eq_true q119
           go_wp2_with (first | ((with_reducible refine gate_dst (N := 34) rfl ?_); refine Kd.R_lit (Kd.int .i64) _ 3 ?hg (N := 34) ?hd (xs := ([] : List Int)) (inner := []) (ok := fun _ => True) (okp := fun _ => True) ?hr ?hp (fun _ hk => hk) trivial (Below.refl _ _) (Nat.le_refl _) (by simp) ?_; (case hd => rfl); (case hg => rfl); (case hr => first | (go_simp; done) | (go_simp; rfl)); (case hp => exact (Reps.none _ _)); intro aZ w17 ho18 hb hg_ hnew_; clear hg_ hnew_; (first | rw [← aH.out] at ho18 | (simp only [Int.reduceToNat] at ho18; rw [← aH.out] at ho18)); have n0_ := am_ (Kd.R_elder' (rr_ ab.out) (Kd.R_base ho18) hb); have n1_ := am_ (Kd.R_lower (Kd.R_new' (Kd.R_newM (M := fun k_ => (P0_ k_ ∨ w.heap.size ≤ k_)) ho18 (by first | exact HK.out.1 | exact (show Kept w _ (fun k_ => P0_ k_) from by exact zputc_0_ HK.out).1) (fun k_ h_ => .inr h_)) (Kd.R_lt (rr_ ab.out))) (below_size (b0_ HB.out))); have n2_ := am_ (Kept.below (S := (fun k_ => P0_ k_)) (zputc_0_ HK.out) hb); have n3_ := am_ (below_step (b0_ HB.out) hb); clear ab; clear HK; clear HB; have ab := n0_; have ay := n1_; have HK := n2_; have HB := n3_; clear n0_ n1_ n2_ n3_; clear hb ho18; have q19 : (aa : Int) ≤ ((l0.length : Int) : Int) := of_decide_eq_true ah_; obtain ⟨i019, hi019, _, hsz19, _⟩ := info_parts info3; have hroom19 : l0.length ≤ ak := (Kd.R_reads' ab.out).2.1; have hC19 : Kd.C (Kd.int .i64) _ (some af) l0.length l0 := (Kd.R_reads' ab.out).2.2; have hcut19 := cut_to (P := Try.prog) 43 3 .i64 Try.underlying43 hi019 (some af) l0.length ak aa (of_decide_eq_true ah_) q19 hroom19; have hr19 := Kd.C_take (m := (aa : Int).toNat) hC19 (by omega); have hy19 : ag.length = (aa : Int).toNat := (by rw [ar.out, List.length_take]; omega); rw [← ar.out] at hr19; rw [← hy19] at hcut19; have HR126 := am_ hr19; have HC126 := am_ (show ag.length ≤ ak from by omega); clear hr19 hC19 hroom19 hi019 hsz19; have KY19 := am_ hy19; clear hy19; have KL19 := am_ (show (aa : Int).toNat ≤ l0.length from by omega); replace q19 := eq_true q19) | ((with_reducible refine gate_builtin (b := .append) (xs := #[.tmp 34, .tmp 37]) rfl ?_); at_builtin; refine Kd.R_append_rows (Kd.int .i64) (w0 := w0) w0.heap.size rfl (.tmp 34) (.tmp 37) 43 3 (.int .i64 0) 8 rfl Try.underlying43 info3 rfl (by decide) (by omega) aZ ap ag _ _ _ (fun k_ => (P0_ k_ ∨ w.heap.size ≤ k_) ∧ some k_ ≠ (.slice (some af) l0.length ak : Value).ownBlock) (fun _ => False) rfl rfl ?aO ?aR (fun _ _ h => h) (fun _ h => h.elim) ?aF ?aB ?aS ?aL ?_; (case aR => exact rc_ (by repeat (first | (with_reducible exact HR126.out) | (with_reducible refine Kd.C_alloc ?_ _) | (with_reducible refine Kd.C_drewN ?_ _) | (with_reducible refine Kd.C_drew ?_) | exact HR126.out))); (case aB => exact (b0_ HB.out)); (case aF => exact (fun k_ hk => ⟨(.inr (Nat.le_trans (by first | exact HK.out.1 | exact (show Kept w _ (fun k_ => P0_ k_) from by exact zputc_0_ HK.out).1) hk)), Kd.fresh' (Kd.R_lt (rr_ ab.out)) k_ hk⟩)); (case aO => exact (by refine rr_ ?_; exact Kd.R_mono ay.out (fun _ hk => ⟨hk.1.1, hk.2⟩))); (case aS => exact (below_size (b0_ HB.out))); (case aL => have := LMc11.out; omega); intro ba w20 ho hb hg hat; rw [← aK.out] at ho; have n0_ := am_ (Kd.R_after (ok := (fun k_ => (P0_ k_ ∨ w.heap.size ≤ k_))) (rr_ ab.out) hg hat); have n1_ := am_ (hb); have n2_ := am_ (Kept.of_grown (S := (fun k_ => P0_ k_)) hg (zputc_0_ HK.out) (fun k_ e_ => (ay.out.1 k_ e_).1.1)); have n3_ := am_ ((show Kd.C (Kd.int .i64) w20 (some af) ag.length ag from by rw [ar.out]; exact Kd.C_take (m := (aa : Int).toNat) ((Kd.R_reads' (Kd.R_after (ok := (fun k_ => (P0_ k_ ∨ w.heap.size ≤ k_))) (rr_ ab.out) hg hat)).2.2) KL19.out)); have n4_ := am_ (ho); clear ab; clear HB; clear HK; clear HR126; clear ay; have ab := n0_; have HB := n1_; have HK := n2_; have HR126 := n3_; have az := n4_; clear n0_ n1_ n2_ n3_ n4_; clear ho hb hg hat) | ((with_reducible refine gate_builtin (b := .append) (xs := #[.tmp 39, .tmp 41]) rfl ?_); at_builtin; refine Kd.R_append (Kd.int .i64) (w0 := w0) w0.heap.size rfl (.tmp 39) (.tmp 41) 43 3 (.int .i64 0) 8 rfl Try.underlying43 info3 rfl (by decide) (by omega) ba an a1 [.int .i64 a1] (fun k_ => (P0_ k_ ∨ w.heap.size ≤ k_) ∧ some k_ ≠ (.slice (some af) l0.length ak : Value).ownBlock) (fun _ => False) rfl rfl ?aP (fun _ hk => hk.elim) ?aF ?aO ?aB ?aS ?aL ?_; (case aP => exact rfl); (case aB => exact (b0_ HB.out)); (case aF => exact (fun k_ hk => ⟨(.inr (Nat.le_trans (by first | exact HK.out.1 | exact (show Kept w _ (fun k_ => P0_ k_) from by exact zputc_0_ HK.out).1) hk)), Kd.fresh' (Kd.R_lt (rr_ ab.out)) k_ hk⟩)); (case aO => exact (rr_ az.out)); (case aS => exact (below_size (b0_ HB.out))); (case aL => have := LMc12.out; omega); intro bb w21 ho hb hg hat; rw [← aM.out] at ho; have n0_ := am_ (Kd.R_after (ok := (fun k_ => (P0_ k_ ∨ w.heap.size ≤ k_))) (rr_ ab.out) hg hat); have n1_ := am_ (hb); have n2_ := am_ (Kept.of_grown (S := (fun k_ => P0_ k_)) hg (zputc_0_ HK.out) (fun k_ e_ => (az.out.1 k_ e_).1)); have n3_ := am_ ((show Kd.C (Kd.int .i64) w21 (some af) ag.length ag from by rw [ar.out]; exact Kd.C_take (m := (aa : Int).toNat) ((Kd.R_reads' (Kd.R_after (ok := (fun k_ => (P0_ k_ ∨ w.heap.size ≤ k_))) (rr_ ab.out) hg hat)).2.2) KL19.out)); have n4_ := am_ (ho); clear ab; clear HB; clear HK; clear HR126; clear az; have ab := n0_; have HB := n1_; have HK := n2_; have HR126 := n3_; have aA := n4_; clear n0_ n1_ n2_ n3_ n4_; clear ho hb hg hat; have q22 : (aa : Int) ≤ ((l0.length : Int) : Int) := of_decide_eq_true ah_; obtain ⟨i022, hi022, _, hsz22, _⟩ := info_parts info3; have hroom22 : l0.length ≤ ak := (Kd.R_reads' ab.out).2.1; have hC22 : Kd.C (Kd.int .i64) _ (some af) l0.length l0 := (Kd.R_reads' ab.out).2.2; have q022 : (0 : Int) ≤ (aa : Int) := of_decide_eq_true ah_; have hcut22 := cut_from (P := Try.prog) 43 3 .i64 Try.underlying43 hi022 1 hsz22 (some af) l0.length ak aa q022 q22; have hr22 := Kd.C_drop (m := (aa : Int).toNat) (c := ak) hC22 (by omega) hroom22; obtain ⟨A22, hA22⟩ : ∃ A1, A1 = (if ak = (aa : Int).toNat then (some af) else ((some af) : Option Addr).map (·.add ((aa : Int).toNat * 1))) := ⟨_, rfl⟩; obtain ⟨c22, hc22⟩ : ∃ c1, c1 = ak - (aa : Int).toNat := ⟨_, rfl⟩; have hy22 : ad.length = l0.length - (aa : Int).toNat := (by rw [ax.out, List.length_drop] <;> omega); rw [show (l0).drop (aa : Int).toNat = ad from ax.out.symm] at hr22; replace hr22 : Kd.C (Kd.int .i64) _ A22 ad.length ad := (by rw [hA22]; exact hr22); rw [← hy22, ← hA22, ← hc22] at hcut22; have HR136 := am_ hr22; have HC136 := am_ (show ad.length ≤ c22 from by rw [hy22, hc22]; exact Nat.sub_le_sub_right hroom22 _); clear hr22 hC22 hroom22 hi022 hsz22 hc22; have KY22 := am_ hy22; have KA22 := am_ hA22; clear hy22 hA22; have KL22 := am_ (show (aa : Int).toNat ≤ l0.length from by omega); replace q22 := eq_true q22) | ((with_reducible refine gate_builtin (b := .append) (xs := #[.tmp 43, .tmp 46]) rfl ?_); at_builtin; refine Kd.R_append_rows (Kd.int .i64) (w0 := w0) w0.heap.size rfl (.tmp 43) (.tmp 46) 43 3 (.int .i64 0) 8 rfl Try.underlying43 info3 rfl (by decide) (by omega) bb ah ad _ _ _ (fun k_ => (P0_ k_ ∨ w.heap.size ≤ k_) ∧ some k_ ≠ (.slice (some af) l0.length ak : Value).ownBlock) (fun _ => False) rfl rfl ?aO ?aR (fun _ _ h => h) (fun _ h => h.elim) ?aF ?aB ?aS ?aL ?_; (case aR => exact rc_ (by repeat (first | (with_reducible exact HR136.out) | (with_reducible refine Kd.C_alloc ?_ _) | (with_reducible refine Kd.C_drewN ?_ _) | (with_reducible refine Kd.C_drew ?_) | exact HR136.out))); (case aB => exact (b0_ HB.out)); (case aF => exact (fun k_ hk => ⟨(.inr (Nat.le_trans (by first | exact HK.out.1 | exact (show Kept w _ (fun k_ => P0_ k_) from by exact zputc_0_ HK.out).1) hk)), Kd.fresh' (Kd.R_lt (rr_ ab.out)) k_ hk⟩)); (case aO => exact (rr_ aA.out)); (case aS => exact (below_size (b0_ HB.out))); (case aL => have := LMc15.out; omega); intro bi w23 ho hb hg hat; rw [← aN.out] at ho; have n0_ := am_ (Kd.R_after (ok := (fun k_ => (P0_ k_ ∨ w.heap.size ≤ k_))) (rr_ ab.out) hg hat); have n1_ := am_ (hb); have n2_ := am_ (Kept.of_grown (S := (fun k_ => P0_ k_)) hg (zputc_0_ HK.out) (fun k_ e_ => (aA.out.1 k_ e_).1)); have n3_ := am_ ((show Kd.C (Kd.int .i64) w23 (some af) ag.length ag from by rw [ar.out]; exact Kd.C_take (m := (aa : Int).toNat) ((Kd.R_reads' (Kd.R_after (ok := (fun k_ => (P0_ k_ ∨ w.heap.size ≤ k_))) (rr_ ab.out) hg hat)).2.2) KL19.out)); have n4_ := am_ ((show Kd.C (Kd.int .i64) w23 A22 ad.length ad from by rw [ax.out, KA22.out]; exact Kd.C_drop (m := (aa : Int).toNat) (c := ak) ((Kd.R_reads' (Kd.R_after (ok := (fun k_ => (P0_ k_ ∨ w.heap.size ≤ k_))) (rr_ ab.out) hg hat)).2.2) KL22.out ((Kd.R_reads' (Kd.R_after (ok := (fun k_ => (P0_ k_ ∨ w.heap.size ≤ k_))) (rr_ ab.out) hg hat)).2.1))); have n5_ := am_ (ho); clear ab; clear HB; clear HK; clear HR126; clear HR136; clear aA; have ab := n0_; have HB := n1_; have HK := n2_; have HR126 := n3_; have HR136 := n4_; have aQ := n5_; clear n0_ n1_ n2_ n3_ n4_ n5_; clear ho hb hg hat))
           go_ret
           exact ⟨_, by first | rfl | (simp [errW_none, errW_some] <;> rfl) | (simp [*, errW_none, errW_some] <;> rfl), Or.inr (rr_ aQ.out), by refine rr_ ?_; exact Kd.R_mono ab.out (fun _ hk => hk.1), by exact zputc_1_ HB.out, by exact zputc_0_ HK.out⟩
          ·rw [if_neg c15] at H
           exact absurd H (by simp)
         ·rw [if_neg c12] at H
          exact absurd H (by simp)
        ·rw [if_neg c11] at H
         exact absurd H (by simp)
       ·rw [if_neg c10] at H
        exact absurd H (by simp)
    ·rw [if_neg c4] at H
     exact absurd H (by simp)
   ·rw [if_neg c3] at H
    have c3b0 : decide (aa < (l0.length : Int)) = false := decide_eq_false c3
    clear c3
    obtain ⟨aq, hy140⟩ : ∃ y_ : List Int, y_ = (([] : List Int)) := ⟨_, rfl⟩
    replace H : (if 0 ≤ aa then (if aa ≤ (l0.length : Int) then ((some (l0.take (aa : Int).toNat : List Int)).bind fun ai => (if aq.length + ai.length < 17592186044416 then ((some (aq ++ ai : List Int)).bind fun ao => (if ao.length < 17592186044416 then ((some (ao ++ [a1] : List Int)).bind fun aj => ((some (l0.drop (aa : Int).toNat : List Int)).bind fun ae => (if aj.length + ae.length < 17592186044416 then (some (aj ++ ae)) else (none)))) else (none))) else (none))) else (none)) else (none)) = some r := by first | (rw [hy140]; with_reducible exact H) | (have H2_ := (Option.bind_some _ _).symm.trans H; rw [hy140]; with_reducible exact H2_) | (have H2_ := (Option.bind_some _ _).symm.trans H; with_reducible exact H2_) | with_reducible exact H | (rw [hy140]; exact H) | exact H
    have aI := am_ hy140
    clear hy140
    by_cases c24 : 0 ≤ aa
    ·rw [if_pos c24] at H
     have c24b0 := eq_true c24
     have c24b1 : decide (0 ≤ aa) = true := decide_eq_true c24
     clear c24
     by_cases c25 : aa ≤ (l0.length : Int)
     ·rw [if_pos c25] at H
      have c25b0 := eq_true c25
      have c25b1 : decide (aa ≤ (l0.length : Int)) = true := decide_eq_true c25
      clear c25
      obtain ⟨ai, hy143⟩ : ∃ y_ : List Int, y_ = (l0.take (aa : Int).toNat) := ⟨_, rfl⟩
      replace H : (if aq.length + ai.length < 17592186044416 then ((some (aq ++ ai : List Int)).bind fun ao => (if ao.length < 17592186044416 then ((some (ao ++ [a1] : List Int)).bind fun aj => ((some (l0.drop (aa : Int).toNat : List Int)).bind fun ae => (if aj.length + ae.length < 17592186044416 then (some (aj ++ ae)) else (none)))) else (none))) else (none)) = some r := by first | (rw [hy143]; with_reducible exact H) | (have H2_ := (Option.bind_some _ _).symm.trans H; rw [hy143]; with_reducible exact H2_) | (have H2_ := (Option.bind_some _ _).symm.trans H; with_reducible exact H2_) | with_reducible exact H | (rw [hy143]; exact H) | exact H
      have au := am_ hy143
      clear hy143
      by_cases c26 : aq.length + ai.length < 17592186044416
      ·rw [if_pos c26] at H
       have LMc26 := am_ c26
       clear c26
       obtain ⟨ao, hy147⟩ : ∃ y_ : List Int, y_ = (aq ++ ai) := ⟨_, rfl⟩
       replace H : (if ao.length < 17592186044416 then ((some (ao ++ [a1] : List Int)).bind fun aj => ((some (l0.drop (aa : Int).toNat : List Int)).bind fun ae => (if aj.length + ae.length < 17592186044416 then (some (aj ++ ae)) else (none)))) else (none)) = some r := by first | (rw [hy147]; with_reducible exact H) | (have H2_ := (Option.bind_some _ _).symm.trans H; rw [hy147]; with_reducible exact H2_) | (have H2_ := (Option.bind_some _ _).symm.trans H; with_reducible exact H2_) | with_reducible exact H | (rw [hy147]; exact H) | exact H
       have aT := am_ hy147
       clear hy147
       by_cases c27 : ao.length < 17592186044416
       ·rw [if_pos c27] at H
        have LMc27 := am_ c27
        clear c27
        obtain ⟨aj, hy150⟩ : ∃ y_ : List Int, y_ = (ao ++ [a1]) := ⟨_, rfl⟩
        replace H : ((some (l0.drop (aa : Int).toNat : List Int)).bind fun ae => (if aj.length + ae.length < 17592186044416 then (some (aj ++ ae)) else (none))) = some r := by first | (rw [hy150]; with_reducible exact H) | (have H2_ := (Option.bind_some _ _).symm.trans H; rw [hy150]; with_reducible exact H2_) | (have H2_ := (Option.bind_some _ _).symm.trans H; with_reducible exact H2_) | with_reducible exact H | (rw [hy150]; exact H) | exact H
        have aU := am_ hy150
        clear hy150
        have c28b0 := eq_true (of_decide_eq_true ah_ : 0 ≤ aa)
        have c29b0 := eq_true (of_decide_eq_true ah_ : aa ≤ (l0.length : Int))
        obtain ⟨ae, hy153⟩ : ∃ y_ : List Int, y_ = (l0.drop (aa : Int).toNat) := ⟨_, rfl⟩
        replace H : (if aj.length + ae.length < 17592186044416 then (some (aj ++ ae)) else (none)) = some r := by first | (rw [hy153]; with_reducible exact H) | (have H2_ := (Option.bind_some _ _).symm.trans H; rw [hy153]; with_reducible exact H2_) | (have H2_ := (Option.bind_some _ _).symm.trans H; with_reducible exact H2_) | with_reducible exact H | (rw [hy153]; exact H) | exact H
        have aC := am_ hy153
        clear hy153
        by_cases c30 : aj.length + ae.length < 17592186044416
        ·rw [if_pos c30] at H
         have LMc30 := am_ c30
         clear c30
         obtain ⟨bc, hy157⟩ : ∃ y_ : List Int, y_ = (aj ++ ae) := ⟨_, rfl⟩
         replace H : (some bc) = some r := by first | (rw [hy157]; with_reducible exact H) | (have H2_ := (Option.bind_some _ _).symm.trans H; rw [hy157]; with_reducible exact H2_) | (have H2_ := (Option.bind_some _ _).symm.trans H; with_reducible exact H2_) | with_reducible exact H | (rw [hy157]; exact H) | exact H
         have aV := am_ hy157
         clear hy157
         obtain rfl := Option.some.inj H
         simp only [Option.some.injEq, Prod.mk.injEq] at H
         obtain ⟨rfl⟩ := H
         obtain ⟨al, am, bd⟩ := Kd.R_slice ab.out
         subst bd
         go_wp2_with (first | ((with_reducible refine gate_dst (N := 34) rfl ?_); refine Kd.R_lit (Kd.int .i64) _ 3 ?hg (N := 34) ?hd (xs := ([] : List Int)) (inner := []) (ok := fun _ => True) (okp := fun _ => True) ?hr ?hp (fun _ hk => hk) trivial (Below.refl _ _) (Nat.le_refl _) (by simp) ?_; (case hd => rfl); (case hg => rfl); (case hr => first | (go_simp; done) | (go_simp; rfl)); (case hp => exact (Reps.none _ _)); intro be w32 ho33 hb hg_ hnew_; clear hg_ hnew_; (first | rw [← aI.out] at ho33 | (simp only [Int.reduceToNat] at ho33; rw [← aI.out] at ho33)); have n0_ := am_ (Kd.R_elder' (rr_ ab.out) (Kd.R_base ho33) hb); have n1_ := am_ (Kd.R_lower (Kd.R_new' (Kd.R_newM (M := fun k_ => (P0_ k_ ∨ w.heap.size ≤ k_)) ho33 (by first | exact HK.out.1 | exact (show Kept w _ (fun k_ => P0_ k_) from by exact zputc_0_ HK.out).1) (fun k_ h_ => .inr h_)) (Kd.R_lt (rr_ ab.out))) (below_size (b0_ HB.out))); have n2_ := am_ (Kept.below (S := (fun k_ => P0_ k_)) (zputc_0_ HK.out) hb); have n3_ := am_ (below_step (b0_ HB.out) hb); clear ab; clear HK; clear HB; have ab := n0_; have aD := n1_; have HK := n2_; have HB := n3_; clear n0_ n1_ n2_ n3_; clear hb ho33; have q34 : (aa : Int) ≤ ((l0.length : Int) : Int) := of_decide_eq_true ah_; obtain ⟨i034, hi034, _, hsz34, _⟩ := info_parts info3; have hroom34 : l0.length ≤ am := (Kd.R_reads' ab.out).2.1; have hC34 : Kd.C (Kd.int .i64) _ al l0.length l0 := (Kd.R_reads' ab.out).2.2; have hcut34 := cut_to (P := Try.prog) 43 3 .i64 Try.underlying43 hi034 al l0.length am aa (of_decide_eq_true ah_) q34 hroom34; have hr34 := Kd.C_take (m := (aa : Int).toNat) hC34 (by omega); have hy34 : ai.length = (aa : Int).toNat := (by rw [au.out, List.length_take]; omega); rw [← au.out] at hr34; rw [← hy34] at hcut34; have HR146 := am_ hr34; have HC146 := am_ (show ai.length ≤ am from by omega); clear hr34 hC34 hroom34 hi034 hsz34; have KY34 := am_ hy34; clear hy34; have KL34 := am_ (show (aa : Int).toNat ≤ l0.length from by omega); replace q34 := eq_true q34) | ((with_reducible refine gate_builtin (b := .append) (xs := #[.tmp 34, .tmp 37]) rfl ?_); at_builtin; refine Kd.R_append_rows (Kd.int .i64) (w0 := w0) w0.heap.size rfl (.tmp 34) (.tmp 37) 43 3 (.int .i64 0) 8 rfl Try.underlying43 info3 rfl (by decide) (by omega) be aq ai _ _ _ (fun k_ => (P0_ k_ ∨ w.heap.size ≤ k_) ∧ some k_ ≠ (.slice al l0.length am : Value).ownBlock) (fun _ => False) rfl rfl ?aO ?aR (fun _ _ h => h) (fun _ h => h.elim) ?aF ?aB ?aS ?aL ?_; (case aR => exact rc_ (by repeat (first | (with_reducible exact HR146.out) | (with_reducible refine Kd.C_alloc ?_ _) | (with_reducible refine Kd.C_drewN ?_ _) | (with_reducible refine Kd.C_drew ?_) | exact HR146.out))); (case aB => exact (b0_ HB.out)); (case aF => exact (fun k_ hk => ⟨(.inr (Nat.le_trans (by first | exact HK.out.1 | exact (show Kept w _ (fun k_ => P0_ k_) from by exact zputc_0_ HK.out).1) hk)), Kd.fresh' (Kd.R_lt (rr_ ab.out)) k_ hk⟩)); (case aO => exact (by refine rr_ ?_; exact Kd.R_mono aD.out (fun _ hk => ⟨hk.1.1, hk.2⟩))); (case aS => exact (below_size (b0_ HB.out))); (case aL => have := LMc26.out; omega); intro bf w35 ho hb hg hat; rw [← aT.out] at ho; have n0_ := am_ (Kd.R_after (ok := (fun k_ => (P0_ k_ ∨ w.heap.size ≤ k_))) (rr_ ab.out) hg hat); have n1_ := am_ (hb); have n2_ := am_ (Kept.of_grown (S := (fun k_ => P0_ k_)) hg (zputc_0_ HK.out) (fun k_ e_ => (aD.out.1 k_ e_).1.1)); have n3_ := am_ ((show Kd.C (Kd.int .i64) w35 al ai.length ai from by rw [au.out]; exact Kd.C_take (m := (aa : Int).toNat) ((Kd.R_reads' (Kd.R_after (ok := (fun k_ => (P0_ k_ ∨ w.heap.size ≤ k_))) (rr_ ab.out) hg hat)).2.2) KL34.out)); have n4_ := am_ (ho); clear ab; clear HB; clear HK; clear HR146; clear aD; have ab := n0_; have HB := n1_; have HK := n2_; have HR146 := n3_; have aE := n4_; clear n0_ n1_ n2_ n3_ n4_; clear ho hb hg hat) | ((with_reducible refine gate_builtin (b := .append) (xs := #[.tmp 39, .tmp 41]) rfl ?_); at_builtin; refine Kd.R_append (Kd.int .i64) (w0 := w0) w0.heap.size rfl (.tmp 39) (.tmp 41) 43 3 (.int .i64 0) 8 rfl Try.underlying43 info3 rfl (by decide) (by omega) bf ao a1 [.int .i64 a1] (fun k_ => (P0_ k_ ∨ w.heap.size ≤ k_) ∧ some k_ ≠ (.slice al l0.length am : Value).ownBlock) (fun _ => False) rfl rfl ?aP (fun _ hk => hk.elim) ?aF ?aO ?aB ?aS ?aL ?_; (case aP => exact rfl); (case aB => exact (b0_ HB.out)); (case aF => exact (fun k_ hk => ⟨(.inr (Nat.le_trans (by first | exact HK.out.1 | exact (show Kept w _ (fun k_ => P0_ k_) from by exact zputc_0_ HK.out).1) hk)), Kd.fresh' (Kd.R_lt (rr_ ab.out)) k_ hk⟩)); (case aO => exact (rr_ aE.out)); (case aS => exact (below_size (b0_ HB.out))); (case aL => have := LMc27.out; omega); intro bg w36 ho hb hg hat; rw [← aU.out] at ho; have n0_ := am_ (Kd.R_after (ok := (fun k_ => (P0_ k_ ∨ w.heap.size ≤ k_))) (rr_ ab.out) hg hat); have n1_ := am_ (hb); have n2_ := am_ (Kept.of_grown (S := (fun k_ => P0_ k_)) hg (zputc_0_ HK.out) (fun k_ e_ => (aE.out.1 k_ e_).1)); have n3_ := am_ ((show Kd.C (Kd.int .i64) w36 al ai.length ai from by rw [au.out]; exact Kd.C_take (m := (aa : Int).toNat) ((Kd.R_reads' (Kd.R_after (ok := (fun k_ => (P0_ k_ ∨ w.heap.size ≤ k_))) (rr_ ab.out) hg hat)).2.2) KL34.out)); have n4_ := am_ (ho); clear ab; clear HB; clear HK; clear HR146; clear aE; have ab := n0_; have HB := n1_; have HK := n2_; have HR146 := n3_; have aG := n4_; clear n0_ n1_ n2_ n3_ n4_; clear ho hb hg hat; have q37 : (aa : Int) ≤ ((l0.length : Int) : Int) := of_decide_eq_true ah_; obtain ⟨i037, hi037, _, hsz37, _⟩ := info_parts info3; have hroom37 : l0.length ≤ am := (Kd.R_reads' ab.out).2.1; have hC37 : Kd.C (Kd.int .i64) _ al l0.length l0 := (Kd.R_reads' ab.out).2.2; have q037 : (0 : Int) ≤ (aa : Int) := of_decide_eq_true ah_; have hcut37 := cut_from (P := Try.prog) 43 3 .i64 Try.underlying43 hi037 1 hsz37 al l0.length am aa q037 q37; have hr37 := Kd.C_drop (m := (aa : Int).toNat) (c := am) hC37 (by omega) hroom37; obtain ⟨A37, hA37⟩ : ∃ A1, A1 = (if am = (aa : Int).toNat then al else (al : Option Addr).map (·.add ((aa : Int).toNat * 1))) := ⟨_, rfl⟩; obtain ⟨c37, hc37⟩ : ∃ c1, c1 = am - (aa : Int).toNat := ⟨_, rfl⟩; have hy37 : ae.length = l0.length - (aa : Int).toNat := (by rw [aC.out, List.length_drop] <;> omega); rw [show (l0).drop (aa : Int).toNat = ae from aC.out.symm] at hr37; replace hr37 : Kd.C (Kd.int .i64) _ A37 ae.length ae := (by rw [hA37]; exact hr37); rw [← hy37, ← hA37, ← hc37] at hcut37; have HR156 := am_ hr37; have HC156 := am_ (show ae.length ≤ c37 from by rw [hy37, hc37]; exact Nat.sub_le_sub_right hroom37 _); clear hr37 hC37 hroom37 hi037 hsz37 hc37; have KY37 := am_ hy37; have KA37 := am_ hA37; clear hy37 hA37; have KL37 := am_ (show (aa : Int).toNat ≤ l0.length from by omega); replace q37 := eq_true q37) | ((with_reducible refine gate_builtin (b := .append) (xs := #[.tmp 43, .tmp 46]) rfl ?_); at_builtin; refine Kd.R_append_rows (Kd.int .i64) (w0 := w0) w0.heap.size rfl (.tmp 43) (.tmp 46) 43 3 (.int .i64 0) 8 rfl Try.underlying43 info3 rfl (by decide) (by omega) bg aj ae _ _ _ (fun k_ => (P0_ k_ ∨ w.heap.size ≤ k_) ∧ some k_ ≠ (.slice al l0.length am : Value).ownBlock) (fun _ => False) rfl rfl ?aO ?aR (fun _ _ h => h) (fun _ h => h.elim) ?aF ?aB ?aS ?aL ?_; (case aR => exact rc_ (by repeat (first | (with_reducible exact HR156.out) | (with_reducible refine Kd.C_alloc ?_ _) | (with_reducible refine Kd.C_drewN ?_ _) | (with_reducible refine Kd.C_drew ?_) | exact HR156.out))); (case aB => exact (b0_ HB.out)); (case aF => exact (fun k_ hk => ⟨(.inr (Nat.le_trans (by first | exact HK.out.1 | exact (show Kept w _ (fun k_ => P0_ k_) from by exact zputc_0_ HK.out).1) hk)), Kd.fresh' (Kd.R_lt (rr_ ab.out)) k_ hk⟩)); (case aO => exact (rr_ aG.out)); (case aS => exact (below_size (b0_ HB.out))); (case aL => have := LMc30.out; omega); intro bj w38 ho hb hg hat; rw [← aV.out] at ho; have n0_ := am_ (Kd.R_after (ok := (fun k_ => (P0_ k_ ∨ w.heap.size ≤ k_))) (rr_ ab.out) hg hat); have n1_ := am_ (hb); have n2_ := am_ (Kept.of_grown (S := (fun k_ => P0_ k_)) hg (zputc_0_ HK.out) (fun k_ e_ => (aG.out.1 k_ e_).1)); have n3_ := am_ ((show Kd.C (Kd.int .i64) w38 al ai.length ai from by rw [au.out]; exact Kd.C_take (m := (aa : Int).toNat) ((Kd.R_reads' (Kd.R_after (ok := (fun k_ => (P0_ k_ ∨ w.heap.size ≤ k_))) (rr_ ab.out) hg hat)).2.2) KL34.out)); have n4_ := am_ ((show Kd.C (Kd.int .i64) w38 A37 ae.length ae from by rw [aC.out, KA37.out]; exact Kd.C_drop (m := (aa : Int).toNat) (c := am) ((Kd.R_reads' (Kd.R_after (ok := (fun k_ => (P0_ k_ ∨ w.heap.size ≤ k_))) (rr_ ab.out) hg hat)).2.2) KL37.out ((Kd.R_reads' (Kd.R_after (ok := (fun k_ => (P0_ k_ ∨ w.heap.size ≤ k_))) (rr_ ab.out) hg hat)).2.1))); have n5_ := am_ (ho); clear ab; clear HB; clear HK; clear HR146; clear HR156; clear aG; have ab := n0_; have HB := n1_; have HK := n2_; have HR146 := n3_; have HR156 := n4_; have aW := n5_; clear n0_ n1_ n2_ n3_ n4_ n5_; clear ho hb hg hat))
         go_ret
         exact ⟨_, by first | rfl | (simp [errW_none, errW_some] <;> rfl) | (simp [*, errW_none, errW_some] <;> rfl), Or.inr (rr_ aW.out), by refine rr_ ?_; exact Kd.R_mono ab.out (fun _ hk => hk.1), by exact zputc_1_ HB.out, by exact zputc_0_ HK.out⟩
        ·rw [if_neg c30] at H
         exact absurd H (by simp)
       ·rw [if_neg c27] at H
        exact absurd H (by simp)
      ·rw [if_neg c26] at H
       exact absurd H (by simp)
     ·rw [if_neg c25] at H
      exact absurd H (by simp)
    ·rw [if_neg c24] at H
     exact absurd H (by simp)
end Go.Proofs.Ytpgdhpnmagmooaa.P
end
section
namespace Go.Proofs.Ytpgdhpnmagmooaa
open Go.RowKit Go.Shelf Go.Proofs.Ytpgdhpnmagmooaa.P Go.Proofs.YtpgdhpnmagmooaaW.PrintWords Go.Proofs.YtpgdhpnmagmooaaW.PrintLast Go.Proofs.YtpgdhpnmagmooaaW.PrintMore
set_option linter.unusedVariables false
set_option linter.unusedSimpArgs false
abbrev IR (w : World) (ok : Nat → Prop) (v : Value) (L : List Int) : Prop := Kd.R (Kd.int .i64) 3 w 0 ok v L
def lst (v : Value) (L : List Int) : Pc := ⟨fun w fp => fp = v.ownBlock.toList ∧ IR w (fun k => k ∈ fp) v L,
  fun ⟨e, h⟩ hm => ⟨e, Kd.R_move h hm⟩,
  fun {w fp} ⟨e, h⟩ k hk => Kd.R_lt h k (by rw [e] at hk; simpa using hk)⟩
def two (v : Value) (L : List Int) (u : Value) (M : List Int) : Pc := ⟨fun w fp => (u = v ∧ M = L ∧ (lst v L).P w fp) ∨ (both (lst v L) (lst u M)).P w fp,
  fun h hm => h.elim (fun ⟨a, b, h⟩ => Or.inl ⟨a, b, (lst v L).mv h hm⟩) (fun h => Or.inr ((both (lst v L) (lst u M)).mv h hm)),
  fun h => h.elim (fun ⟨a, b, h⟩ => (lst v L).lt h) (fun h => (both (lst v L) (lst u M)).lt h)⟩
section
variable {w0 w : World} {ps : List Pc} {v u : Value} {L M : List Int}
theorem Sl.two1 (H : Sl w0 w ps) (i : Nat) (hi : ps[i]? = some (two v L u M) := by rfl) : IR w (fun k => w0.heap.size ≤ k) v L ∧ IR w (fun k => w0.heap.size ≤ k) u M := by
  obtain ⟨f, h, -, hg⟩ := H.get i hi
  rcases h with ⟨rfl, rfl, e, h⟩ | ⟨f1, f2, e, ⟨e1, h1⟩, ⟨e2, h2⟩⟩
  · exact ⟨Kd.R_mono h (fun k hk => hg k hk), Kd.R_mono h (fun k hk => hg k hk)⟩
  · exact ⟨Kd.R_mono h1 (fun k hk => hg k (by rw [e]; exact List.mem_append_left _ hk)), Kd.R_mono h2 (fun k hk => hg k (by rw [e]; exact List.mem_append_right _ hk))⟩
theorem Sl.snd (H : Sl w0 w ps) (i : Nat) (hi : ps[i]? = some (two v L u M) := by rfl) : Sl w0 w (ps.set i (two u M u M)) := by
  refine H.upd i hi H.bel (fun f h hn _ => ?_)
  rcases h with ⟨rfl, rfl, h⟩ | ⟨f1, f2, e, h1, h2⟩
  · exact ⟨f, Or.inl ⟨rfl, rfl, h⟩, hn, fun k hk => Or.inl hk, fun _ _ _ => rfl⟩
  · subst e
    exact ⟨f2, Or.inl ⟨rfl, rfl, h2⟩, (List.nodup_append.1 hn).2.1, fun k hk => Or.inl (List.mem_append_right _ hk), fun _ _ _ => rfl⟩
theorem raise_R {base : Nat} {ok : Nat → Prop} {w : World} (h : IR w ok v L) (hb : ∀ k, v.ownBlock = some k → base ≤ k) : Kd.R (Kd.int .i64) 3 w base ok v L := by
  obtain ⟨h0, inner, ⟨h1, h2⟩, hr⟩ := h
  refine ⟨h0, inner, ⟨h1, ?_⟩, hr⟩
  rcases h2 with h2 | ⟨g, cap, cur, rfl, hg, r⟩
  · exact .inl h2
  · exact .inr ⟨g, cap, cur, rfl, hb g rfl, r⟩
theorem tight {base : Nat} {ok : Nat → Prop} {w : World} (h : Kd.R (Kd.int .i64) 3 w base ok v L) : IR w (fun k => k ∈ v.ownBlock.toList) v L := Kd.R_lower (Kd.R_mono (Kd.R_tight rfl h) (fun k hk => by rw [← hk]; simp)) (Nat.zero_le _)
theorem putTwo {k : Nat} {q : Int} {r : List Int} (H : Sl w0 w ps) (i : Nat) (hi : ps[i]? = some (two v L u M)) (h : spec_l6Put.f k M q = some r) :
    Calls Try.prog 25 #[u, .int .i64 q] w fun e w' => ∃ x, e = .returned x ∧ Sl w0 w' (ps.set i (two v L x r)) := by
  obtain ⟨f, hP, hn, hg, hback⟩ := H.opn i hi
  have hu : IR w (fun k => some k = u.ownBlock) u M ∧ (∀ k, u.ownBlock = some k → k ∈ f) := by
    rcases hP with ⟨rfl, rfl, e, h⟩ | ⟨f1, f2, e, ⟨e1, h1⟩, ⟨e2, h2⟩⟩
    · exact ⟨Kd.R_mono h (fun k hk => by rw [e] at hk; simpa [eq_comm] using hk), fun k hk => by rw [e, hk]; simp⟩
    · exact ⟨Kd.R_mono h2 (fun k hk => by rw [e2] at hk; simpa [eq_comm] using hk), fun k hk => by rw [e]; refine List.mem_append_right _ ?_; rw [e2, hk]; simp⟩
  refine (spec_l6Put.calls2 k (fun k => some k = u.ownBlock) u M q r w0 w H.bel (raise_R hu.1 (fun k hk => hg k (hu.2 k hk))) h).mono ?_
  rintro e w' ⟨x, rfl, hx, hM, hbel, hkept⟩
  refine ⟨x, rfl, ?_⟩
  have hk2 : ∀ k, k < w.heap.size → k ∉ f → w'.heap[k]? = w.heap[k]? := fun k h1 h2 => hkept.2 k h1 (fun e => h2 (hu.2 k e.symm))
  have hnew : ∀ {ok : Nat → Prop}, Kd.R (Kd.int .i64) 3 w' w0.heap.size (fun k_ => ((some k_ = u.ownBlock ∨ w.heap.size ≤ k_) ∧ some k_ ≠ u.ownBlock)) x r → ∀ k ∈ x.ownBlock.toList, w.heap.size ≤ k := fun h k hk => by
    have := h.1 k (by simpa using hk)
    exact this.1.resolve_left this.2
  have nd1 : ∀ y : Value, y.ownBlock.toList.Nodup := fun y => by cases y.ownBlock <;> simp
  rcases hP with ⟨rfl, rfl, e, h⟩ | ⟨f1, f2, e, ⟨e1, h1⟩, ⟨e2, h2⟩⟩
  · rcases hx with ⟨rfl, rfl⟩ | hx
    · exact hback w' _ f hbel (Or.inl ⟨rfl, rfl, e, by rw [e]; exact tight hM⟩) hn (fun k hk => Or.inl hk) hk2
    · have hN := hnew (ok := fun _ => True) hx
      refine hback w' _ (f ++ x.ownBlock.toList) hbel (Or.inr ⟨f, x.ownBlock.toList, rfl, ⟨e, by rw [e]; exact tight hM⟩, ⟨rfl, tight hx⟩⟩) (List.nodup_append.2 ⟨hn, nd1 x, fun a ha b hb e' => ?_⟩) (fun k hk => ?_) hk2
      · have h3 := hN b hb
        have h4 := Kd.R_lt h a (by rw [e] at ha; simpa using ha)
        omega
      · rcases List.mem_append.1 hk with hk | hk
        · exact Or.inl hk
        · exact Or.inr (hN k hk)
  · subst e
    obtain ⟨n1, n2, n3⟩ := List.nodup_append.1 hn
    have hV : IR w' (fun k => k ∈ f1) v L := Kd.R_move h1 (fun k hk => hkept.2 k (Kd.R_lt h1 k (by rw [e1] at hk; simpa using hk)) (fun e' => n3 k hk k (by rw [e2, ← e']; simp) rfl))
    rcases hx with ⟨rfl, rfl⟩ | hx
    · exact hback w' _ (f1 ++ f2) hbel (Or.inr ⟨f1, f2, rfl, ⟨e1, hV⟩, ⟨e2, by rw [e2]; exact tight hM⟩⟩) hn (fun k hk => Or.inl hk) hk2
    · have hN := hnew (ok := fun _ => True) hx
      refine hback w' _ (f1 ++ x.ownBlock.toList) hbel (Or.inr ⟨f1, x.ownBlock.toList, rfl, ⟨e1, hV⟩, ⟨rfl, tight hx⟩⟩) (List.nodup_append.2 ⟨n1, nd1 x, fun a ha b hb e' => ?_⟩) (fun k hk => ?_) hk2
      · have h3 := hN b hb
        have h4 := Kd.R_lt h1 a (by rw [e1] at ha; simpa using ha)
        omega
      · rcases List.mem_append.1 hk with hk | hk
        · exact Or.inl (List.mem_append_left _ hk)
        · exact Or.inr (hN k hk)
end
end Go.Proofs.Ytpgdhpnmagmooaa
end
section
namespace Go.Proofs.Ytpgdhpnmagmooaa.Rc
set_option linter.unusedVariables false
set_option linter.unusedSimpArgs false
def putI (q : Int) : List Int → List Int
  | [] => [q]
  | y :: t => if y < q then y :: putI q t else if y = q then y :: t else q :: y :: t
abbrev Asc (l : List Int) : Prop := l.Pairwise (· < ·)
theorem putI_mem (q : Int) : ∀ (l : List Int) (y : Int), y ∈ putI q l ↔ y ∈ l ∨ y = q
  | [], y => by simp [putI]
  | x :: t, y => by
    rw [putI]
    split
    · rw [List.mem_cons, List.mem_cons, putI_mem q t y, or_assoc]
    · split
      · rename_i h; subst h; simp only [List.mem_cons]; constructor
        · exact Or.inl
        · rintro (h | h)
          · exact h
          · exact Or.inl h
      · simp only [List.mem_cons]; constructor
        · rintro (h | h | h)
          · exact Or.inr h
          · exact Or.inl (Or.inl h)
          · exact Or.inl (Or.inr h)
        · rintro ((h | h) | h)
          · exact Or.inr (Or.inl h)
          · exact Or.inr (Or.inr h)
          · exact Or.inl h
theorem putI_asc (q : Int) : ∀ (l : List Int), Asc l → Asc (putI q l)
  | [], _ => by simp [putI]
  | x :: t, h => by
    obtain ⟨h1, h2⟩ := List.pairwise_cons.mp h
    rw [putI]
    split
    · refine List.pairwise_cons.mpr ⟨fun y hy => ?_, putI_asc q t h2⟩
      rcases (putI_mem q t y).mp hy with hy | rfl
      · exact h1 y hy
      · assumption
    · split
      · exact h
      · refine List.pairwise_cons.mpr ⟨fun y hy => ?_, h⟩
        rcases List.mem_cons.mp hy with rfl | hy
        · omega
        · have := h1 y hy
          omega
theorem putI_len (q : Int) : ∀ (l : List Int), Asc l → (q ∈ l ∧ (putI q l).length = l.length) ∨ (putI q l).length = l.length + 1
  | [], _ => Or.inr rfl
  | x :: t, h => by
    obtain ⟨h1, h2⟩ := List.pairwise_cons.mp h
    rw [putI]
    split
    · rcases putI_len q t h2 with ⟨a, b⟩ | b
      · exact Or.inl ⟨List.mem_cons_of_mem _ a, by simp only [List.length_cons]; omega⟩
      · exact Or.inr (by simp only [List.length_cons]; omega)
    · split
      · rename_i h; exact Or.inl ⟨by rw [h]; simp, rfl⟩
      · exact Or.inr (by simp)
theorem asc_len : ∀ (l : List Int) (a b : Int), Asc l → a ≤ b → (∀ y ∈ l, a ≤ y ∧ y < b) → (l.length : Int) ≤ b - a
  | [], a, b, _, h, _ => by simp; omega
  | x :: t, a, b, h, hab, hr => by
    obtain ⟨h1, h2⟩ := List.pairwise_cons.mp h
    have hx := hr x (by simp)
    have := asc_len t (x + 1) b h2 (by omega) (fun y hy => ⟨by have := h1 y hy; omega, (hr y (by simp [hy])).2⟩)
    simp only [List.length_cons]
    omega
def puts (ys : List Int) (acc : List Int) : List Int := ys.foldl (fun a y => putI y a) acc
theorem puts_asc : ∀ (ys acc : List Int), Asc acc → Asc (puts ys acc)
  | [], _, h => h
  | y :: ys, acc, h => puts_asc ys (putI y acc) (putI_asc y acc h)
theorem puts_mem : ∀ (ys acc : List Int) (z : Int), z ∈ puts ys acc ↔ z ∈ acc ∨ z ∈ ys
  | [], acc, z => by simp [puts]
  | y :: ys, acc, z => by
    have := puts_mem ys (putI y acc) z
    rw [putI_mem] at this
    show z ∈ puts ys (putI y acc) ↔ _
    rw [this, List.mem_cons, or_assoc]
theorem puts_len : ∀ (ys acc : List Int), Asc acc → acc.length ≤ (puts ys acc).length ∧ ((puts ys acc).length = acc.length → ∀ y ∈ ys, y ∈ acc)
  | [], acc, h => ⟨Nat.le_refl _, fun _ y hy => by cases hy⟩
  | y :: ys, acc, h => by
    obtain ⟨h1, h2⟩ := puts_len ys (putI y acc) (putI_asc y acc h)
    have e : puts (y :: ys) acc = puts ys (putI y acc) := rfl
    rw [e]
    rcases putI_len y acc h with ⟨a, b⟩ | b
    · refine ⟨by omega, fun hl z hz => ?_⟩
      rcases List.mem_cons.1 hz with rfl | hz
      · exact a
      · rcases (putI_mem y acc z).1 (h2 (by omega) z hz) with h3 | rfl
        · exact h3
        · exact a
    · exact ⟨by omega, fun hl => by omega⟩
section
variable (row : Int → List Int)
inductive Rn (q : Int) : Nat → Int → Prop
  | one {y : Int} : y ∈ row q → Rn q 1 y
  | more {r : Nat} {x y : Int} : Rn q r x → y ∈ row x → Rn q (r + 1) y
variable {row}
theorem Rn.pos {q y : Int} {r : Nat} (h : Rn row q r y) : 1 ≤ r := by
  induction h with
  | one _ => exact Nat.le_refl _
  | more _ _ ih => omega
theorem Rn.first {q y : Int} {r : Nat} (h : Rn row q r y) : (r = 1 ∧ y ∈ row q) ∨ ∃ x s, r = s + 1 ∧ x ∈ row q ∧ Rn row x s y := by
  induction h with
  | one h => exact Or.inl ⟨rfl, h⟩
  | more h1 h2 ih =>
    rcases ih with ⟨rfl, h3⟩ | ⟨x, s, rfl, h3, h4⟩
    · exact Or.inr ⟨_, 1, rfl, h3, Rn.one h2⟩
    · exact Or.inr ⟨x, s + 1, rfl, h3, Rn.more h4 h2⟩
theorem Rn.cat {q x y : Int} {r s : Nat} (h : Rn row q r x) (h2 : Rn row x s y) : Rn row q (r + s) y := by
  induction h2 with
  | one h3 => exact Rn.more h h3
  | more _ h3 ih => exact Rn.more ih h3
variable (row)
def mores (L : List Int) : List Int → List Int → List Int
  | [], acc => acc
  | x :: t, acc => mores L t (puts (row x) acc)
def moreOf (L : List Int) : List Int := mores row L L L
def itR : Nat → List Int → Option (List Int)
  | 0, _ => none
  | k + 1, L => if (moreOf row L).length = L.length then some L else itR k (moreOf row L)
variable {row}
theorem mores_all (L : List Int) : ∀ (t acc : List Int), Asc acc → Asc (mores row L t acc) ∧ (∀ z, z ∈ mores row L t acc ↔ z ∈ acc ∨ ∃ x ∈ t, z ∈ row x) ∧ acc.length ≤ (mores row L t acc).length ∧ ((mores row L t acc).length = acc.length → ∀ x ∈ t, ∀ y ∈ row x, y ∈ acc)
  | [], acc, h => ⟨h, fun z => by simp [mores], Nat.le_refl _, fun _ x hx => by cases hx⟩
  | x :: t, acc, h => by
    obtain ⟨h1, h2, h3, h4⟩ := mores_all L t (puts (row x) acc) (puts_asc _ _ h)
    obtain ⟨p1, p2⟩ := puts_len (row x) acc h
    have e : mores row L (x :: t) acc = mores row L t (puts (row x) acc) := rfl
    rw [e]
    refine ⟨h1, fun z => ?_, by omega, fun hl u hu y hy => ?_⟩
    · rw [h2, puts_mem]
      constructor
      · rintro ((h | h) | ⟨u, hu, h⟩)
        · exact Or.inl h
        · exact Or.inr ⟨x, by simp, h⟩
        · exact Or.inr ⟨u, by simp [hu], h⟩
      · rintro (h | ⟨u, hu, h⟩)
        · exact Or.inl (Or.inl h)
        · rcases List.mem_cons.1 hu with rfl | hu
          · exact Or.inl (Or.inr h)
          · exact Or.inr ⟨u, hu, h⟩
    · rcases List.mem_cons.1 hu with rfl | hu
      · exact p2 (by omega) y hy
      · rcases (puts_mem (row x) acc y).1 (h4 (by omega) u hu y hy) with h5 | h5
        · exact h5
        · exact p2 (by omega) y h5
theorem itR_ok {n : Nat} {q : Int} (hr : ∀ x, 0 ≤ x → x < (n : Int) → ∀ y ∈ row x, 0 ≤ y ∧ y < (n : Int)) :
    ∀ (d i : Nat) (L : List Int), n < i + d → Asc L → (∀ y ∈ L, 0 ≤ y ∧ y < (n : Int)) → i + 1 ≤ L.length → (∀ y ∈ row q, y ∈ L) → (∀ y ∈ L, ∃ r, r ≤ i + 1 ∧ Rn row q r y) →
    ∃ L', itR row d L = some L' ∧ Asc L' ∧ (∀ y ∈ L', (0 ≤ y ∧ y < (n : Int)) ∧ ∃ r, r ≤ n ∧ Rn row q r y) ∧ (∀ r y, Rn row q r y → y ∈ L')
  | 0, i, L, hd, ha, hb, hl, _, _ => by
    have := asc_len L 0 n ha (by omega) hb
    omega
  | d + 1, i, L, hd, ha, hb, hl, h1, h2 => by
    have hn := asc_len L 0 n ha (by omega) hb
    obtain ⟨m1, m2, m3, m4⟩ := mores_all (row := row) L L L ha
    by_cases e : (moreOf row L).length = L.length
    · refine ⟨L, by rw [itR, if_pos e], ha, fun y hy => ⟨hb y hy, ?_⟩, fun r y h => ?_⟩
      · obtain ⟨r, h3, h4⟩ := h2 y hy
        exact ⟨r, by omega, h4⟩
      · induction h with
        | one h => exact h1 _ h
        | more _ h ih => exact m4 e _ ih _ h
    · have e2 : itR row (d + 1) L = itR row d (moreOf row L) := by rw [itR, if_neg e]
      rw [e2]
      refine itR_ok hr d (i + 1) (moreOf row L) (by omega) m1 (fun y hy => ?_) (by have : L.length ≤ (moreOf row L).length := m3; omega) (fun y hy => (m2 y).2 (Or.inl (h1 y hy))) (fun y hy => ?_)
      · rcases (m2 y).1 hy with h | ⟨x, hx, h⟩
        · exact hb y h
        · exact hr x (hb x hx).1 (hb x hx).2 y h
      · rcases (m2 y).1 hy with h | ⟨x, hx, h⟩
        · obtain ⟨r, h3, h4⟩ := h2 y h
          exact ⟨r, by omega, h4⟩
        · obtain ⟨r, h3, h4⟩ := h2 x hx
          exact ⟨r + 1, by omega, Rn.more h4 h⟩
theorem reach_ok {n : Nat} {q : Int} (hr : ∀ x, 0 ≤ x → x < (n : Int) → ∀ y ∈ row x, 0 ≤ y ∧ y < (n : Int)) (hq : 0 ≤ q ∧ q < (n : Int)) (hne : row q ≠ []) (d : Nat) (hd : n < d) :
    ∃ L', itR row d (puts (row q) []) = some L' ∧ Asc L' ∧ (∀ y ∈ L', (0 ≤ y ∧ y < (n : Int)) ∧ ∃ r, r ≤ n ∧ Rn row q r y) ∧ (∀ r y, Rn row q r y → y ∈ L') := by
  have hm := puts_mem (row q) []
  refine itR_ok hr d 0 _ (by omega) (puts_asc _ _ List.Pairwise.nil) (fun y hy => ?_) ?_ (fun y hy => (hm y).2 (Or.inr hy)) (fun y hy => ?_)
  · rcases (hm y).1 hy with h | h
    · cases h
    · exact hr q hq.1 hq.2 y h
  · cases hc : puts (row q) [] with
    | nil =>
      cases hrow : row q with
      | nil => exact absurd hrow hne
      | cons y t =>
        have : y ∈ puts (row q) [] := (hm y).2 (Or.inr (by rw [hrow]; simp))
        rw [hc] at this
        cases this
    | cons y t => simp
  · rcases (hm y).1 hy with h | h
    · cases h
    · exact ⟨1, by omega, Rn.one h⟩
end
end Go.Proofs.Ytpgdhpnmagmooaa.Rc
end
section
namespace Go.Proofs.Ytpgdhpnmagmooaa.P
open Go.RowKit Go.Proofs.YtpgdhpnmagmooaaW.PrintWords Go.Proofs.YtpgdhpnmagmooaaW.PrintLast Go.Proofs.YtpgdhpnmagmooaaW.PrintMore
attribute [local go_sem] max2_int min2_int max_two min_two max_three min_three max_four min_four
set_option linter.unusedVariables false
set_option linter.unusedSimpArgs false
def laws_toBoolS.l0 : Nat → List Bool → List Bool → Int → Option (List Bool)
  | 0, _, _, _ => none
  | k + 1, x0, x3, x4 => if x4 < (x0.length : Int) then (if 0 ≤ x4 then (if x4 < (x3.length : Int) then (laws_toBoolS.l0 k x0 (x3.set (x4 : Int).toNat (rdOf false x0 x4)) (wrap64 (x4 + 1))) else (none)) else (none)) else (some x3)
def laws_toBoolS.f (k : Nat) (l0 : List Bool) : Option (List Bool) := if 0 ≤ (l0.length : Int) then (if ((l0.length : Int) : Int).toNat ≤ 281474976710656 then (laws_toBoolS.l0 k l0 (List.replicate ((l0.length : Int) : Int).toNat false) 0) else (none)) else (none)
theorem laws_toBoolS.mono_l : ∀ k, (∀ y0 y1 y2, LeO (laws_toBoolS.l0 k y0 y1 y2) (laws_toBoolS.l0 (k + 1) y0 y1 y2))
  | 0 => fun _ _ _ r h => by simp [laws_toBoolS.l0] at h
  | k + 1 => by
    have ih0 := laws_toBoolS.mono_l k
    · intro y0 y1 y2
      unfold laws_toBoolS.l0
      repeat' first
      | (with_reducible exact ih0 _ _ _)
      | (with_reducible exact LeO.refl _)
      | (with_reducible exact LeO.none _)
      | (with_reducible refine LeO.ite ?_ ?_)
      | (with_reducible refine LeO.bind ?_ (fun _ => ?_))
      | exact ih0 _ _ _
      | exact LeO.none _
      | refine LeO.ite ?_ ?_
      | refine LeO.bind ?_ (fun _ => ?_)
theorem laws_toBoolS.mono : ∀ a0 k, LeO (laws_toBoolS.f k a0) (laws_toBoolS.f (k + 1) a0) := by
  intro a0 k
  have ih0 := laws_toBoolS.mono_l k
  unfold laws_toBoolS.f
  repeat' first
      | (with_reducible exact ih0 _ _ _)
      | (with_reducible exact LeO.refl _)
      | (with_reducible exact LeO.none _)
      | (with_reducible refine LeO.ite ?_ ?_)
      | (with_reducible refine LeO.bind ?_ (fun _ => ?_))
      | exact ih0 _ _ _
      | exact LeO.none _
      | refine LeO.ite ?_ ?_
      | refine LeO.bind ?_ (fun _ => ?_)
theorem zp7_0_ {p q : Prop} (h : p) (c : p → q := by intro h_; repeat (first | (with_reducible first | exact h_ | apply below_alloc | apply pw_below_drewN | apply below_drew1) | exact h_)) : q := c h
set_option maxHeartbeats 8000000 in
set_option maxRecDepth 100000 in
theorem laws_toBoolS.calls (k : Nat) (A0 : Option Addr) (c0 : Nat) (l0 : List Bool) (r : List Bool) (w : World) (hr0 : Kd.C Kd.bool w A0 l0.length l0) (hc0 : l0.length ≤ c0) (h : laws_toBoolS.f k l0 = some r) :
    Calls Try.prog 29 #[.slice A0 l0.length c0] w fun e w' => ∃ v0_ : Value, e = .returned (v0_) ∧ Kd.R Kd.bool 4 w' w.heap.size (fun _ => True) v0_ r ∧ Below w.heap.size w w' := by
  have HR0 := am_ hr0
  have HC0 := am_ hc0
  clear hr0 hc0
  have HB := am_ (Below.refl w.heap.size w)
  have H : (if 0 ≤ (l0.length : Int) then (if ((l0.length : Int) : Int).toNat ≤ 281474976710656 then (laws_toBoolS.l0 k l0 (List.replicate ((l0.length : Int) : Int).toNat false) 0) else (none)) else (none)) = some r := h
  clear h
  by_cases c2 : 0 ≤ (l0.length : Int)
  · rw [if_pos c2] at H
    have c2b0 := eq_true c2
    have c2b1 : decide (0 ≤ (l0.length : Int)) = true := decide_eq_true c2
    clear c2
    by_cases c3 : ((l0.length : Int) : Int).toNat ≤ 281474976710656
    · rw [if_pos c3] at H
      have c3b0 := eq_true c3
      have c3b1 : decide (((l0.length : Int) : Int).toNat ≤ 281474976710656) = true := decide_eq_true c3
      clear c3
      obtain ⟨aR, hy179⟩ : ∃ y_ : List Bool, y_ = (List.replicate ((l0.length : Int) : Int).toNat false) := ⟨_, rfl⟩
      replace H : (laws_toBoolS.l0 k l0 aR 0) = some r := by first | (rw [hy179]; with_reducible exact H) | (have H2_ := (Option.bind_some _ _).symm.trans H; rw [hy179]; with_reducible exact H2_) | (have H2_ := (Option.bind_some _ _).symm.trans H; with_reducible exact H2_) | with_reducible exact H | (rw [hy179]; exact H) | exact H
      have aL := am_ hy179
      clear hy179
      have H' := am_ H
      clear H
      go_enter Try.func29, Try.ntmps29
      go_wp2_with (first | ((with_reducible refine gate_dst (N := 7) rfl ?_); refine Kd.R_make Kd.bool _ 4 rfl (N := 7) rfl 22 _ _ rfl (l0.length : Int) rfl rfl Try.underlying22 (.bool false) 1 info4 rfl (by decide) (by omega) false (ok := fun _ => True) (okp := fun _ => True) rfl (fun _ hk => hk) trivial (of_decide_eq_true ah_) (Nat.le_trans (Nat.mul_le_mul_right _ (of_decide_eq_true ah_ : (l0.length : Int).toNat ≤ 281474976710656)) (by omega)) (Below.refl _ _) (Nat.le_refl _) ?_; intro bk w4 ho5 hb hg_ hnew_; clear hg_ hnew_; (first | rw [← aL.out] at ho5 | (simp only [Int.reduceToNat] at ho5; rw [← aL.out] at ho5)); replace aZ := am_ (Kd.R_lower ho5 (below_size (b0_ HB.out))); replace HB := am_ (below_step (b0_ HB.out) hb); clear hb ho5))
      go_loopg [4] k (fun kq v4 w' => ∃ (ae : List Bool) (aa : Int), v4 = .int .i64 aa ∧ Aside0 (laws_toBoolS.l0 kq l0 ae aa = some r) ∧ Aside0 (kq ≤ k) ∧ Aside0 (Kd.R Kd.bool 4 w' w.heap.size (fun _ => True) bk ae) ∧ Aside0 (Below w.heap.size w w'))
      case atStart => exact ⟨(aR), (0), (by first | rfl | (simp; done) | (simp [*]; done)), H', ⟨Nat.le_refl _⟩, ⟨by refine rr_ ?_; exact aZ.out⟩, ⟨by exact zp7_0_ HB.out⟩⟩
      case round =>
        clear H'
        try clear c2
        try clear c2b0
        try clear c2b1
        try clear p2
        try clear c3
        try clear c3b0
        try clear c3b1
        obtain ⟨ae, aa, rfl, HA, HK1, ab, HB⟩ := hrel
        cases gk with
        | zero => exact absurd HA.out (by simp [laws_toBoolS.l0])
        | succ k1 =>
          have H := HA.out
          clear HA
          simp only [laws_toBoolS.l0] at H
          by_cases c6 : aa < (l0.length : Int)
          · rw [if_pos c6] at H
            have c6b0 : decide (aa < (l0.length : Int)) = true := decide_eq_true c6
            clear c6
            by_cases c7 : 0 ≤ aa
            · rw [if_pos c7] at H
              have c7b0 : decide (0 ≤ aa) = true := decide_eq_true c7
              clear c7
              by_cases c8 : aa < (ae.length : Int)
              · rw [if_pos c8] at H
                have c8b0 : decide (aa < (ae.length : Int)) = true := decide_eq_true c8
                clear c8
                obtain ⟨aI, hy183⟩ : ∃ y_ : List Bool, y_ = (ae.set (aa : Int).toNat (rdOf false l0 aa)) := ⟨_, rfl⟩
                replace H : (laws_toBoolS.l0 k1 l0 aI (wrap64 (aa + 1))) = some r := by first | (rw [hy183]; with_reducible exact H) | (have H2_ := (Option.bind_some _ _).symm.trans H; rw [hy183]; with_reducible exact H2_) | (have H2_ := (Option.bind_some _ _).symm.trans H; with_reducible exact H2_) | with_reducible exact H | (rw [hy183]; exact H) | exact H
                have ba := am_ hy183
                clear hy183
                have H' := am_ H
                clear H
                have p182 : 0 ≤ (aa : Int) := of_decide_eq_true ah_
                have q182 : aa < (l0.length : Int) := of_decide_eq_true ah_
                obtain ⟨bK, e182, av⟩ := Kd.at_bool HR0.out aa p182 q182
                cases e182
                replace av := (HB.out.cell (World.block_lt_of_cell? w _ av)).trans av
                replace p182 := eq_true p182
                replace q182 := eq_true q182
                have p9 : 0 ≤ (aa : Int) := of_decide_eq_true ah_
                have q9 : (aa : Int) < ((ae.length : Int) : Int) := of_decide_eq_true ah_
                obtain ⟨go9, co9, eo9, gb9, gl9, cl9, HG9⟩ := Kd.R_form ab.out (by omega)
                (first | cases eo9 | (injection eo9 with ea_ en_ ec_; (first | subst ea_ | (injection ea_ with ea_; subst ea_)); subst ec_; clear en_))
                have GB9 := am_ gb9
                have GG9 := am_ HG9
                clear gb9 gl9 HG9
                obtain ⟨bb, hf9_0⟩ := Kd.R_celln false ab.out (aa : Int) p9 q9
                replace p9 := eq_true p9
                replace q9 := eq_true q9
                have HP10 := Kd.R_putg ab.out (aa : Int) (rdOf false l0 aa)
                go_wp2_with (first | ((with_reducible refine gate_store (t := 4) (p := 20) rfl ?_); refine store_event (t := 4) (p := 20) (v := ?vo_w11) (w1 := (wr.setCell ⟨go9, (aa : Int).toNat, none⟩ (.bool (rdOf false l0 aa)))) ?hg ?ho ?hn ?hr ?_; (case ho => rfl); (case hg => rfl); (case hn => rfl); (case hr => first | (go_simp; done) | (go_simp; rfl)); intro w11 hw; have hg : wr.grownBy w11 (some go9) := (by rw [hw]; exact HP10.2); have hp_ : Kd.R Kd.bool 4 w11 w.heap.size (fun _ => True) (.slice (some ⟨go9, 0, none⟩) ae.length co9) aI := (by rw [hw, ba.out]; exact HP10.1); clear HP10; have n0_ := am_ (hp_); have n1_ := am_ ((by rw [hw]; exact below_set (HB.out) GB9.out : Below w.heap.size w w11)); clear ab; clear HB; have ab := n0_; have HB := n1_; clear n0_ n1_; clear hg hw hp_))
                go_roundg k1
                case measure => have := HK1.out; omega
                case rel => exact ⟨(aI), (wrap64 (aa + 1)), (by first | rfl | (simp; done) | (simp [*]; done)), H', ⟨by have := HK1.out; omega⟩, ⟨by refine rr_ ?_; exact ab.out⟩, ⟨by exact zp7_0_ HB.out⟩⟩
              · rw [if_neg c8] at H
                exact absurd H (by simp)
            · rw [if_neg c7] at H
              exact absurd H (by simp)
          · rw [if_neg c6] at H
            have c6b0 : decide (aa < (l0.length : Int)) = false := decide_eq_false c6
            clear c6
            obtain rfl := Option.some.inj H
            simp only [Option.some.injEq, Prod.mk.injEq] at H
            obtain ⟨rfl⟩ := H
            go_wp2
            go_ret
            exact ⟨_, by first | rfl | (simp [errW_none, errW_some] <;> rfl) | (simp [*, errW_none, errW_some] <;> rfl), by refine rr_ ?_; exact ab.out, by exact zp7_0_ HB.out⟩
    · rw [if_neg c3] at H
      exact absurd H (by simp)
  · rw [if_neg c2] at H
    exact absurd H (by simp)
def laws_toIntS.l0 : Nat → List Int → List Int → Int → Option (List Int)
  | 0, _, _, _ => none
  | k + 1, x0, x3, x4 => if x4 < (x0.length : Int) then (if 0 ≤ x4 then (if x4 < (x3.length : Int) then (laws_toIntS.l0 k x0 (x3.set (x4 : Int).toNat (rd x0 x4)) (wrap64 (x4 + 1))) else (none)) else (none)) else (some x3)
def laws_toIntS.f (k : Nat) (l0 : List Int) : Option (List Int) := if 0 ≤ (l0.length : Int) then (if ((l0.length : Int) : Int).toNat ≤ 35184372088832 then (laws_toIntS.l0 k l0 (List.replicate ((l0.length : Int) : Int).toNat 0) 0) else (none)) else (none)
theorem laws_toIntS.mono_l : ∀ k, (∀ y0 y1 y2, LeO (laws_toIntS.l0 k y0 y1 y2) (laws_toIntS.l0 (k + 1) y0 y1 y2))
  | 0 => fun _ _ _ r h => by simp [laws_toIntS.l0] at h
  | k + 1 => by
    have ih0 := laws_toIntS.mono_l k
    · intro y0 y1 y2
      unfold laws_toIntS.l0
      repeat' first
      | (with_reducible exact ih0 _ _ _)
      | (with_reducible exact LeO.refl _)
      | (with_reducible exact LeO.none _)
      | (with_reducible refine LeO.ite ?_ ?_)
      | (with_reducible refine LeO.bind ?_ (fun _ => ?_))
      | exact ih0 _ _ _
      | exact LeO.none _
      | refine LeO.ite ?_ ?_
      | refine LeO.bind ?_ (fun _ => ?_)
theorem laws_toIntS.mono : ∀ a0 k, LeO (laws_toIntS.f k a0) (laws_toIntS.f (k + 1) a0) := by
  intro a0 k
  have ih0 := laws_toIntS.mono_l k
  unfold laws_toIntS.f
  repeat' first
      | (with_reducible exact ih0 _ _ _)
      | (with_reducible exact LeO.refl _)
      | (with_reducible exact LeO.none _)
      | (with_reducible refine LeO.ite ?_ ?_)
      | (with_reducible refine LeO.bind ?_ (fun _ => ?_))
      | exact ih0 _ _ _
      | exact LeO.none _
      | refine LeO.ite ?_ ?_
      | refine LeO.bind ?_ (fun _ => ?_)
set_option maxHeartbeats 8000000 in
set_option maxRecDepth 100000 in
theorem laws_toIntS.calls (k : Nat) (A0 : Option Addr) (c0 : Nat) (l0 : List Int) (r : List Int) (w : World) (hr0 : Kd.C (Kd.int .i64) w A0 l0.length l0) (hc0 : l0.length ≤ c0) (h : laws_toIntS.f k l0 = some r) :
    Calls Try.prog 48 #[.slice A0 l0.length c0] w fun e w' => ∃ v0_ : Value, e = .returned (v0_) ∧ Kd.R (Kd.int .i64) 3 w' w.heap.size (fun _ => True) v0_ r ∧ Below w.heap.size w w' := by
  have HR0 := am_ hr0
  have HC0 := am_ hc0
  clear hr0 hc0
  have HB := am_ (Below.refl w.heap.size w)
  have H : (if 0 ≤ (l0.length : Int) then (if ((l0.length : Int) : Int).toNat ≤ 35184372088832 then (laws_toIntS.l0 k l0 (List.replicate ((l0.length : Int) : Int).toNat 0) 0) else (none)) else (none)) = some r := h
  clear h
  by_cases c2 : 0 ≤ (l0.length : Int)
  · rw [if_pos c2] at H
    have c2b0 := eq_true c2
    have c2b1 : decide (0 ≤ (l0.length : Int)) = true := decide_eq_true c2
    clear c2
    by_cases c3 : ((l0.length : Int) : Int).toNat ≤ 35184372088832
    · rw [if_pos c3] at H
      have c3b0 := eq_true c3
      have c3b1 : decide (((l0.length : Int) : Int).toNat ≤ 35184372088832) = true := decide_eq_true c3
      clear c3
      obtain ⟨aS, hy184⟩ : ∃ y_ : List Int, y_ = (List.replicate ((l0.length : Int) : Int).toNat 0) := ⟨_, rfl⟩
      replace H : (laws_toIntS.l0 k l0 aS 0) = some r := by first | (rw [hy184]; with_reducible exact H) | (have H2_ := (Option.bind_some _ _).symm.trans H; rw [hy184]; with_reducible exact H2_) | (have H2_ := (Option.bind_some _ _).symm.trans H; with_reducible exact H2_) | with_reducible exact H | (rw [hy184]; exact H) | exact H
      have aM := am_ hy184
      clear hy184
      have H' := am_ H
      clear H
      go_enter Try.func48, Try.ntmps48
      go_wp2_with (first | ((with_reducible refine gate_dst (N := 7) rfl ?_); refine Kd.R_make (Kd.int .i64) _ 3 rfl (N := 7) rfl 43 _ _ rfl (l0.length : Int) rfl rfl Try.underlying43 (.int .i64 0) 8 info3 rfl (by decide) (by omega) 0 (ok := fun _ => True) (okp := fun _ => True) rfl (fun _ hk => hk) trivial (of_decide_eq_true ah_) (Nat.le_trans (Nat.mul_le_mul_right _ (of_decide_eq_true ah_ : (l0.length : Int).toNat ≤ 35184372088832)) (by omega)) (Below.refl _ _) (Nat.le_refl _) ?_; intro bl w4 ho5 hb hg_ hnew_; clear hg_ hnew_; (first | rw [← aM.out] at ho5 | (simp only [Int.reduceToNat] at ho5; rw [← aM.out] at ho5)); replace bc := am_ (Kd.R_lower ho5 (below_size (b0_ HB.out))); replace HB := am_ (below_step (b0_ HB.out) hb); clear hb ho5))
      go_loopg [4] k (fun kq v4 w' => ∃ (ae : List Int) (aa : Int), v4 = .int .i64 aa ∧ Aside0 (laws_toIntS.l0 kq l0 ae aa = some r) ∧ Aside0 (kq ≤ k) ∧ Aside0 (Kd.R (Kd.int .i64) 3 w' w.heap.size (fun _ => True) bl ae) ∧ Aside0 (Below w.heap.size w w'))
      case atStart => exact ⟨(aS), (0), (by first | rfl | (simp; done) | (simp [*]; done)), H', ⟨Nat.le_refl _⟩, ⟨by refine rr_ ?_; exact bc.out⟩, ⟨by exact zp7_0_ HB.out⟩⟩
      case round =>
        clear H'
        try clear c2
        try clear c2b0
        try clear c2b1
        try clear p2
        try clear c3
        try clear c3b0
        try clear c3b1
        try clear c4
        obtain ⟨ae, aa, rfl, HA, HK1, ab, HB⟩ := hrel
        cases gk with
        | zero => exact absurd HA.out (by simp [laws_toIntS.l0])
        | succ k1 =>
          have H := HA.out
          clear HA
          simp only [laws_toIntS.l0] at H
          by_cases c6 : aa < (l0.length : Int)
          · rw [if_pos c6] at H
            have c6b0 : decide (aa < (l0.length : Int)) = true := decide_eq_true c6
            clear c6
            by_cases c7 : 0 ≤ aa
            · rw [if_pos c7] at H
              have c7b0 : decide (0 ≤ aa) = true := decide_eq_true c7
              clear c7
              by_cases c8 : aa < (ae.length : Int)
              · rw [if_pos c8] at H
                have c8b0 : decide (aa < (ae.length : Int)) = true := decide_eq_true c8
                clear c8
                obtain ⟨aJ, hy188⟩ : ∃ y_ : List Int, y_ = (ae.set (aa : Int).toNat (rd l0 aa)) := ⟨_, rfl⟩
                replace H : (laws_toIntS.l0 k1 l0 aJ (wrap64 (aa + 1))) = some r := by first | (rw [hy188]; with_reducible exact H) | (have H2_ := (Option.bind_some _ _).symm.trans H; rw [hy188]; with_reducible exact H2_) | (have H2_ := (Option.bind_some _ _).symm.trans H; with_reducible exact H2_) | with_reducible exact H | (rw [hy188]; exact H) | exact H
                have bd := am_ hy188
                clear hy188
                have H' := am_ H
                clear H
                have p187 : 0 ≤ (aa : Int) := of_decide_eq_true ah_
                have q187 : aa < (l0.length : Int) := of_decide_eq_true ah_
                obtain ⟨bL, e187, aw⟩ := Kd.at_int HR0.out aa p187 q187
                cases e187
                replace aw := (HB.out.cell (World.block_lt_of_cell? w _ aw)).trans aw
                replace p187 := eq_true p187
                replace q187 := eq_true q187
                have p9 : 0 ≤ (aa : Int) := of_decide_eq_true ah_
                have q9 : (aa : Int) < ((ae.length : Int) : Int) := of_decide_eq_true ah_
                obtain ⟨go9, co9, eo9, gb9, gl9, cl9, HG9⟩ := Kd.R_form ab.out (by omega)
                (first | cases eo9 | (injection eo9 with ea_ en_ ec_; (first | subst ea_ | (injection ea_ with ea_; subst ea_)); subst ec_; clear en_))
                have GB9 := am_ gb9
                have GG9 := am_ HG9
                clear gb9 gl9 HG9
                obtain ⟨bb, hf9_0⟩ := Kd.R_celln 0 ab.out (aa : Int) p9 q9
                replace p9 := eq_true p9
                replace q9 := eq_true q9
                have HP10 := Kd.R_putg ab.out (aa : Int) (rd l0 aa)
                go_wp2_with (first | ((with_reducible refine gate_store (t := 3) (p := 20) rfl ?_); refine store_event (t := 3) (p := 20) (v := ?vo_w11) (w1 := (wr.setCell ⟨go9, (aa : Int).toNat, none⟩ (.int .i64 (rd l0 aa)))) ?hg ?ho ?hn ?hr ?_; (case ho => rfl); (case hg => rfl); (case hn => rfl); (case hr => first | (go_simp; done) | (go_simp; rfl)); intro w11 hw; have hg : wr.grownBy w11 (some go9) := (by rw [hw]; exact HP10.2); have hp_ : Kd.R (Kd.int .i64) 3 w11 w.heap.size (fun _ => True) (.slice (some ⟨go9, 0, none⟩) ae.length co9) aJ := (by rw [hw, bd.out]; exact HP10.1); clear HP10; have n0_ := am_ (hp_); have n1_ := am_ ((by rw [hw]; exact below_set (HB.out) GB9.out : Below w.heap.size w w11)); clear ab; clear HB; have ab := n0_; have HB := n1_; clear n0_ n1_; clear hg hw hp_))
                go_roundg k1
                case measure => have := HK1.out; omega
                case rel => exact ⟨(aJ), (wrap64 (aa + 1)), (by first | rfl | (simp; done) | (simp [*]; done)), H', ⟨by have := HK1.out; omega⟩, ⟨by refine rr_ ?_; exact ab.out⟩, ⟨by exact zp7_0_ HB.out⟩⟩
              · rw [if_neg c8] at H
                exact absurd H (by simp)
            · rw [if_neg c7] at H
              exact absurd H (by simp)
          · rw [if_neg c6] at H
            have c6b0 : decide (aa < (l0.length : Int)) = false := decide_eq_false c6
            clear c6
            obtain rfl := Option.some.inj H
            simp only [Option.some.injEq, Prod.mk.injEq] at H
            obtain ⟨rfl⟩ := H
            go_wp2
            go_ret
            exact ⟨_, by first | rfl | (simp [errW_none, errW_some] <;> rfl) | (simp [*, errW_none, errW_some] <;> rfl), by refine rr_ ?_; exact ab.out, by exact zp7_0_ HB.out⟩
    · rw [if_neg c3] at H
      exact absurd H (by simp)
  · rw [if_neg c2] at H
    exact absurd H (by simp)
def laws_toIntSS.l0 : Nat → List (List Int) → List (List Int) → Int → Option ((List (List Int)))
  | 0, _, _, _ => none
  | k + 1, x0, x3, x4 => if x4 < (x0.length : Int) then (if 0 ≤ x4 then ((laws_toIntS.f k (rd_L1 x0 x4)).bind fun aA => (if x4 < (x3.length : Int) then (laws_toIntSS.l0 k x0 (x3.set (x4 : Int).toNat aA) (wrap64 (x4 + 1))) else (none))) else (none)) else (some x3)
def laws_toIntSS.f (k : Nat) (l0 : List (List Int)) : Option ((List (List Int))) := if 0 ≤ (l0.length : Int) then (if ((l0.length : Int) : Int).toNat ≤ 11728124029610 then (laws_toIntSS.l0 k l0 (List.replicate ((l0.length : Int) : Int).toNat []) 0) else (none)) else (none)
theorem laws_toIntSS.mono_l : ∀ k, (∀ y0 y1 y2, LeO (laws_toIntSS.l0 k y0 y1 y2) (laws_toIntSS.l0 (k + 1) y0 y1 y2))
  | 0 => fun _ _ _ r h => by simp [laws_toIntSS.l0] at h
  | k + 1 => by
    have ih0 := laws_toIntSS.mono_l k
    · intro y0 y1 y2
      unfold laws_toIntSS.l0
      repeat' first
      | (with_reducible exact ih0 _ _ _)
      | (with_reducible exact laws_toIntS.mono _ _)
      | (with_reducible exact LeO.refl _)
      | (with_reducible exact LeO.none _)
      | (with_reducible refine LeO.ite ?_ ?_)
      | (with_reducible refine LeO.bind ?_ (fun _ => ?_))
      | exact ih0 _ _ _
      | exact laws_toIntS.mono _ _
      | exact LeO.none _
      | refine LeO.ite ?_ ?_
      | refine LeO.bind ?_ (fun _ => ?_)
theorem laws_toIntSS.mono : ∀ a0 k, LeO (laws_toIntSS.f k a0) (laws_toIntSS.f (k + 1) a0) := by
  intro a0 k
  have ih0 := laws_toIntSS.mono_l k
  unfold laws_toIntSS.f
  repeat' first
      | (with_reducible exact ih0 _ _ _)
      | (with_reducible exact laws_toIntS.mono _ _)
      | (with_reducible exact LeO.refl _)
      | (with_reducible exact LeO.none _)
      | (with_reducible refine LeO.ite ?_ ?_)
      | (with_reducible refine LeO.bind ?_ (fun _ => ?_))
      | exact ih0 _ _ _
      | exact laws_toIntS.mono _ _
      | exact LeO.none _
      | refine LeO.ite ?_ ?_
      | refine LeO.bind ?_ (fun _ => ?_)
set_option maxHeartbeats 8000000 in
set_option maxRecDepth 100000 in
theorem laws_toIntSS.calls (k : Nat) (A0 : Option Addr) (c0 : Nat) (l0 : List (List Int)) (r : List (List Int)) (w : World) (hr0 : Kd.C (Kd.slice 3 (Kd.int .i64)) w A0 l0.length l0) (hc0 : l0.length ≤ c0) (h : laws_toIntSS.f k l0 = some r) :
    Calls Try.prog 30 #[.slice A0 l0.length c0] w fun e w' => ∃ v0_ : Value, e = .returned (v0_) ∧ Kd.S (Kd.slice 3 (Kd.int .i64)) 43 w' w.heap.size (fun _ => True) v0_ r ∧ Below w.heap.size w w' := by
  have HR0 := am_ hr0
  have HC0 := am_ hc0
  clear hr0 hc0
  have HB := am_ (Below.refl w.heap.size w)
  have H : (if 0 ≤ (l0.length : Int) then (if ((l0.length : Int) : Int).toNat ≤ 11728124029610 then (laws_toIntSS.l0 k l0 (List.replicate ((l0.length : Int) : Int).toNat []) 0) else (none)) else (none)) = some r := h
  clear h
  by_cases c2 : 0 ≤ (l0.length : Int)
  · rw [if_pos c2] at H
    have c2b0 := eq_true c2
    have c2b1 : decide (0 ≤ (l0.length : Int)) = true := decide_eq_true c2
    clear c2
    by_cases c3 : ((l0.length : Int) : Int).toNat ≤ 11728124029610
    · rw [if_pos c3] at H
      have c3b0 := eq_true c3
      have c3b1 : decide (((l0.length : Int) : Int).toNat ≤ 11728124029610) = true := decide_eq_true c3
      clear c3
      obtain ⟨aT, hy189⟩ : ∃ y_ : List (List Int), y_ = (List.replicate ((l0.length : Int) : Int).toNat []) := ⟨_, rfl⟩
      replace H : (laws_toIntSS.l0 k l0 aT 0) = some r := by first | (rw [hy189]; with_reducible exact H) | (have H2_ := (Option.bind_some _ _).symm.trans H; rw [hy189]; with_reducible exact H2_) | (have H2_ := (Option.bind_some _ _).symm.trans H; with_reducible exact H2_) | with_reducible exact H | (rw [hy189]; exact H) | exact H
      have aN := am_ hy189
      clear hy189
      have H' := am_ H
      clear H
      go_enter Try.func30, Try.ntmps30
      go_wp2_with (first | ((with_reducible refine gate_dst (N := 7) rfl ?_); refine Kd.S_make (Kd.slice 3 (Kd.int .i64)) _ 43 rfl (N := 7) rfl 23 _ _ rfl (l0.length : Int) rfl rfl Try.underlying23 (.slice none 0 0) 24 info43 rfl (by decide) (by omega) [] (ok := fun _ => True) (okp := fun _ => True) ⟨_, rfl, Kd.R_nil _ _ _ _ _⟩ (fun _ hk => hk) trivial (of_decide_eq_true ah_) (Nat.le_trans (Nat.mul_le_mul_right _ (of_decide_eq_true ah_ : (l0.length : Int).toNat ≤ 11728124029610)) (by omega)) (Below.refl _ _) (Nat.le_refl _) ?_; intro bm w4 ho5 hb hg_ hnew_; clear hg_ hnew_; (first | rw [← aN.out] at ho5 | (simp only [Int.reduceToNat] at ho5; rw [← aN.out] at ho5)); replace be := am_ (Kd.S_lower ho5 (below_size (b0_ HB.out))); replace HB := am_ (below_step (b0_ HB.out) hb); clear hb ho5))
      go_loopg [4] k (fun kq v4 w' => ∃ (ae : List (List Int)) (aa : Int), v4 = .int .i64 aa ∧ Aside0 (laws_toIntSS.l0 kq l0 ae aa = some r) ∧ Aside0 (kq ≤ k) ∧ Aside0 (Kd.S (Kd.slice 3 (Kd.int .i64)) 43 w' w.heap.size (fun _ => True) bm ae) ∧ Aside0 (Below w.heap.size w w'))
      case atStart => exact ⟨(aT), (0), (by first | rfl | (simp; done) | (simp [*]; done)), H', ⟨Nat.le_refl _⟩, ⟨by refine rs_ ?_; exact be.out⟩, ⟨by exact zp7_0_ HB.out⟩⟩
      case round =>
        clear H'
        try clear c2
        try clear c2b0
        try clear c2b1
        try clear p2
        try clear c3
        try clear c3b0
        try clear c3b1
        obtain ⟨ae, aa, rfl, HA, HK1, ab, HB⟩ := hrel
        cases gk with
        | zero => exact absurd HA.out (by simp [laws_toIntSS.l0])
        | succ k1 =>
          have H := HA.out
          clear HA
          simp only [laws_toIntSS.l0] at H
          by_cases c6 : aa < (l0.length : Int)
          · rw [if_pos c6] at H
            have c6b0 : decide (aa < (l0.length : Int)) = true := decide_eq_true c6
            clear c6
            by_cases c7 : 0 ≤ aa
            · rw [if_pos c7] at H
              have c7b0 : decide (0 ≤ aa) = true := decide_eq_true c7
              clear c7
              replace H := Option.bind_eq_some_iff.mp H
              obtain ⟨aA, A80, H⟩ := H
              have A8 := am_ A80
              clear A80
              by_cases c9 : aa < (ae.length : Int)
              · rw [if_pos c9] at H
                have c9b0 : decide (aa < (ae.length : Int)) = true := decide_eq_true c9
                clear c9
                obtain ⟨aK, hy196⟩ : ∃ y_ : List (List Int), y_ = (ae.set (aa : Int).toNat aA) := ⟨_, rfl⟩
                replace H : (laws_toIntSS.l0 k1 l0 aK (wrap64 (aa + 1))) = some r := by first | (rw [hy196]; with_reducible exact H) | (have H2_ := (Option.bind_some _ _).symm.trans H; rw [hy196]; with_reducible exact H2_) | (have H2_ := (Option.bind_some _ _).symm.trans H; with_reducible exact H2_) | with_reducible exact H | (rw [hy196]; exact H) | exact H
                have bf := am_ hy196
                clear hy196
                have H' := am_ H
                clear H
                have p192 : 0 ≤ (aa : Int) := of_decide_eq_true ah_
                have q192 : aa < (l0.length : Int) := of_decide_eq_true ah_
                obtain ⟨bM, A192_0, c192_0, e192, ax, hl192_0, hi192_0⟩ := at_L1 HR0.out aa p192 q192
                cases e192
                replace ax := (HB.out.cell (World.block_lt_of_cell? w _ ax)).trans ax
                have aP := am_ hi192_0
                have aQ := am_ hl192_0
                clear hi192_0 hl192_0
                replace p192 := eq_true p192
                replace q192 := eq_true q192
                go_wp2_with (first | ((with_reducible refine gate_callee (f := 48) rfl ?_); refine gL_ (some 20) Try.func48 #[.slice A192_0 (rd_L1 l0 aa).length c192_0] ?_; (with_reducible refine (laws_toIntS.calls k1 _ _ (rd_L1 l0 aa) aA _ ?side1 ?side2 A8.out).mono ?_); (case side1 => exact rc_ (Kd.C_below aP.out HB.out)); (case side2 => exact aQ.out); rintro e w11 ⟨aD, rfl, ho0, hb⟩; refine ⟨_, rfl, ?_⟩; have n0_ := am_ (Kd.S_elder' (rs_ ab.out) (Kd.R_base ho0) hb); have n1_ := am_ (Kd.R_lower ho0 (below_size (b0_ HB.out))); have n2_ := am_ (below_step (b0_ HB.out) hb); clear ab; clear HB; have ab := n0_; have az := n1_; have HB := n2_; clear n0_ n1_ n2_; (try clear hb); (try clear hb2); (try clear hk); (try clear hi); (try clear ho0); have p10 : 0 ≤ (aa : Int) := of_decide_eq_true ah_; have q10 : (aa : Int) < ((ae.length : Int) : Int) := of_decide_eq_true ah_; obtain ⟨go10, aU, aV, aW, gl10, cl10, HG10⟩ := Kd.S_form ab.out (by omega); (first | cases aV | (injection aV with ea_ en_ ec_; (first | subst ea_ | (injection ea_ with ea_; subst ea_)); subst ec_; clear en_)); have GB10 := am_ aW; have GG10 := am_ HG10; clear aW gl10 HG10; obtain ⟨_, ce10, hcl10, hM10, hcc10, hfr10, _, _⟩ := Kd.S_elem ab.out [] (aa : Int) p10 q10; obtain ⟨ve10_0, rfl, ge10_0⟩ := hM10; have aX := hcc10 0 _ rfl; have hf10_0 := hfr10 0; (try simp only [show ((Kd.slice 3 (Kd.int .i64))).sz = 1 from rfl, Nat.mul_one, Nat.add_zero] at aX); (try simp only [show ((Kd.slice 3 (Kd.int .i64))).sz = 1 from rfl, Nat.mul_one, Nat.add_zero] at hf10_0); (try clear hcl10); (try clear hcc10); (try clear hfr10); (try clear hM10); replace p10 := eq_true p10; replace q10 := eq_true q10; have n_ := am_ (Kd.S_mono (ok' := (fun k_ => some k_ ≠ (aD : Value).ownBlock)) ab.out (fun k_ hk => hk.2)); clear ab; have ab := n_; clear n_; have HX12 := am_ (show Kd.S (Kd.slice 3 (Kd.int .i64)) 43 w11 w.heap.size (fun k_ => ((fun _ => True)) k_ ∧ ¬ ((fun k_ => some k_ = (aD : Value).ownBlock)) k_) (.slice (some ⟨go10, 0, none⟩) ae.length aU) ae from (by refine rs_ ?_; exact Kd.S_mono ab.out (fun k_ hk => ⟨trivial, fun e_ => hk e_⟩))); obtain ⟨oki12, ce12, hcl12, hM12, hcc12, hfr12, hoki12, hH12⟩ := Kd.S_elem HX12.out [] (aa : Int) (of_decide_eq_true ah_) (by have h_ : (aa : Int) < ((ae.length : Int) : Int) := of_decide_eq_true ah_; first | exact h_ | (have e_ := (Kd.S_reads' ab.out).1; omega) | simpa using h_); obtain ⟨ve12_0, rfl, ge12_0⟩ := hM12; have HP12 := Kd.S_seg hH12 (of_decide_eq_true ah_) (by have h_ : (aa : Int) < ((ae.length : Int) : Int) := of_decide_eq_true ah_; first | exact h_ | (have e_ := (Kd.S_reads' ab.out).1; omega) | simpa using h_) (seg := [aD]) (j := 0) (show 1 ≤ 1 from by decide) (x' := aA) (Kd.M_row (Kd.R_mono (Kd.R_tight rfl (Kd.R_mono (ok' := fun k_ => ((fun _ => True)) k_ ∧ k_ ≠ go10) (Kd.R_apart' (az.out) (Kd.S_typed ab.out) (by decide)) (fun k_ hk => ⟨trivial, fun e_ => (hk.2) (by rw [e_]; rfl)⟩))) (fun _ h_ => Or.inr (h_)))) (fun _ hk => hk) (fun k_ hk_ => ((Kd.R_mono (ok' := fun k_ => ((fun _ => True)) k_ ∧ k_ ≠ go10) (Kd.R_apart' (az.out) (Kd.S_typed ab.out) (by decide)) (fun k_ hk => ⟨trivial, fun e_ => (hk.2) (by rw [e_]; rfl)⟩))).1 k_ hk_.symm); have aY := hcc12 0 _ rfl; (try simp only [show ((Kd.slice 3 (Kd.int .i64))).sz = 1 from rfl, Nat.mul_one, Nat.add_zero] at aY); have hf12_0 := hfr12 0; (try simp only [show ((Kd.slice 3 (Kd.int .i64))).sz = 1 from rfl, Nat.mul_one, Nat.add_zero] at hf12_0); (try clear hcl12); (try clear hcc12); (try clear hfr12); (try clear hM12); (try clear hoki12); (try clear hH12); (try simp only [show ((Kd.slice 3 (Kd.int .i64))).sz = 1 from rfl, Nat.mul_one, Nat.add_zero] at HP12)) | ((with_reducible refine gate_store (t := 43) (p := 21) rfl ?_); refine store_event (t := 43) (p := 21) (v := ?vo_w13) (w1 := (w11.setCell ⟨go10, (aa : Int).toNat, none⟩ (aD))) ?hg ?ho ?hn ?hr ?_; (case ho => rfl); (case hg => rfl); (case hn => rfl); (case hr => first | (go_simp; done) | (go_simp; rfl) | (obtain ⟨A_, c_, hv_, _⟩ := Kd.R_reads az.out; rw [hv_]; first | (go_simp; done) | (go_simp; rfl))); intro w13 hw; have hg : w11.grownBy w13 (some go10) := (by rw [hw]; exact HP12.2); have hp_ : Kd.S (Kd.slice 3 (Kd.int .i64)) 43 w13 w.heap.size (fun _ => True) (.slice (some ⟨go10, 0, none⟩) ae.length aU) aK := (by rw [hw, bf.out]; exact HP12.1); clear HP12; have n0_ := am_ (hp_); have n1_ := am_ ((by rw [hw]; exact below_set (HB.out) GB10.out : Below w.heap.size w w13)); clear ab; clear HB; clear az; have ab := n0_; have HB := n1_; clear n0_ n1_; clear hg hw hp_))
                go_roundg k1
                case measure => have := HK1.out; omega
                case rel => exact ⟨(aK), (wrap64 (aa + 1)), (by first | rfl | (simp; done) | (simp [*]; done)), H', ⟨by have := HK1.out; omega⟩, ⟨by refine rs_ ?_; exact ab.out⟩, ⟨by exact zp7_0_ HB.out⟩⟩
              · rw [if_neg c9] at H
                exact absurd H (by simp)
            · rw [if_neg c7] at H
              exact absurd H (by simp)
          · rw [if_neg c6] at H
            have c6b0 : decide (aa < (l0.length : Int)) = false := decide_eq_false c6
            clear c6
            obtain rfl := Option.some.inj H
            simp only [Option.some.injEq, Prod.mk.injEq] at H
            obtain ⟨rfl⟩ := H
            go_wp2
            go_ret
            exact ⟨_, by first | rfl | (simp [errW_none, errW_some] <;> rfl) | (simp [*, errW_none, errW_some] <;> rfl), by refine rs_ ?_; exact ab.out, by exact zp7_0_ HB.out⟩
    · rw [if_neg c3] at H
      exact absurd H (by simp)
  · rw [if_neg c2] at H
    exact absurd H (by simp)
def laws_toDfa.f (k : Nat) (l0_0 : List Bool) (l0_1 : List (List Int)) : Option (List Bool × (List (List Int))) := (laws_toBoolS.f k l0_0).bind fun aj => ((laws_toIntSS.f k l0_1).bind fun ak => (some (aj, ak)))
theorem laws_toDfa.mono : ∀ a0 a1 k, LeO (laws_toDfa.f k a0 a1) (laws_toDfa.f (k + 1) a0 a1) := by
  intro a0 a1 k
  unfold laws_toDfa.f
  repeat' first
      | (with_reducible exact laws_toBoolS.mono _ _)
      | (with_reducible exact laws_toIntSS.mono _ _)
      | (with_reducible exact LeO.refl _)
      | (with_reducible exact LeO.none _)
      | (with_reducible refine LeO.ite ?_ ?_)
      | (with_reducible refine LeO.bind ?_ (fun _ => ?_))
      | exact laws_toBoolS.mono _ _
      | exact laws_toIntSS.mono _ _
      | exact LeO.none _
      | refine LeO.ite ?_ ?_
      | refine LeO.bind ?_ (fun _ => ?_)
set_option maxHeartbeats 8000000 in
set_option maxRecDepth 100000 in
theorem laws_toDfa.calls (k : Nat) (A0_0 : Option Addr) (c0_0 : Nat) (l0_0 : List Bool) (A0_1 : Option Addr) (c0_1 : Nat) (l0_1 : List (List Int)) (r1 : List Bool) (r2 : List (List Int)) (w : World) (hr0_0 : Kd.C Kd.bool w A0_0 l0_0.length l0_0) (hc0_0 : l0_0.length ≤ c0_0) (hr0_1 : Kd.C (Kd.slice 3 (Kd.int .i64)) w A0_1 l0_1.length l0_1) (hc0_1 : l0_1.length ≤ c0_1) (h : laws_toDfa.f k l0_0 l0_1 = some (r1, r2)) :
    Calls Try.prog 8 #[.agg #[.slice A0_0 l0_0.length c0_0, .slice A0_1 l0_1.length c0_1]] w fun e w' => ∃ v0_ v1_ : Value, e = .returned (.agg #[v0_, v1_]) ∧ Kd.R Kd.bool 4 w' w.heap.size (fun _ => True) v0_ r1 ∧ Kd.S (Kd.slice 3 (Kd.int .i64)) 43 w' w.heap.size (fun _ => True) v1_ r2 ∧ Below w.heap.size w w' := by
  have hu25 := Try.underlying25
  have hu28 := Try.underlying28
  have bg := am_ hr0_0
  have bh := am_ hc0_0
  clear hr0_0 hc0_0
  have bi := am_ hr0_1
  have bj := am_ hc0_1
  clear hr0_1 hc0_1
  have HB := am_ (Below.refl w.heap.size w)
  have H : ((laws_toBoolS.f k l0_0).bind fun aj => ((laws_toIntSS.f k l0_1).bind fun ak => (some (aj, ak)))) = some (r1, r2) := h
  clear h
  replace H := Option.bind_eq_some_iff.mp H
  obtain ⟨aj, A20, H⟩ := H
  replace H : ((laws_toIntSS.f k l0_1).bind fun ak => (some (aj, ak))) = some (r1, r2) := H
  have A2 := am_ A20
  clear A20
  replace H := Option.bind_eq_some_iff.mp H
  obtain ⟨ak, A30, H⟩ := H
  replace H : (some (aj, ak)) = some (r1, r2) := H
  have A3 := am_ A30
  clear A30
  simp only [Option.some.injEq, Prod.mk.injEq] at H
  obtain ⟨rfl, rfl⟩ := H
  go_enter Try.func8, Try.ntmps8
  go_wp2_with (first | ((with_reducible refine gate_dst (N := 1) rfl ?_); refine box_event ?hg (N := 1) ?hd (cs := #[.slice A0_0 l0_0.length c0_0, .slice A0_1 l0_1.length c0_1]) (t := 25) ?hr ?_; (case hd => rfl); (case hg => rfl); (case hr => first | (go_simp; done) | (go_simp; rfl)); intro an hg w4 hbox hb; replace ad := am_ (hbox); replace bN := am_ ((by rw [hg]; exact (below_size (b0_ HB.out)) : w.heap.size ≤ an)); replace ah := am_ ((by rw [hg]; exact (below_size (b0_ HB.out)) : w.heap.size ≤ an)); replace HB := am_ (below_step (b0_ HB.out) hb); clear hb hbox hg) | ((with_reducible refine gate_dst (N := 2) rfl ?_); refine box_event ?hg (N := 2) ?hd (cs := #[.slice none 0 0, .slice none 0 0]) (t := 28) ?hr ?_; (case hd => rfl); (case hg => rfl); (case hr => first | (go_simp; done) | (go_simp; rfl)); intro ai hg w5 hbox hb; have n0_ := am_ (blk_below (rb_ ad.out) hb); have n1_ := am_ (below_step (b1_ HB.out ah.out) hb); have n2_ := am_ (hbox); have n3_ := am_ ((by rw [hg]; exact (below_size (b1_ HB.out ah.out)) : w.heap.size ≤ ai)); have n4_ := am_ ((by rw [hg]; exact (below_size (b1_ HB.out ah.out)) : w.heap.size ≤ ai)); have n5_ := am_ ((by rw [hg]; exact Nat.ne_of_lt (blk_lt (rb_ ad.out)) : an ≠ ai)); have n6_ := am_ ((by rw [hg]; exact Nat.ne_of_gt (blk_lt (rb_ ad.out)) : ai ≠ an)); clear ad; clear HB; have ad := n0_; have HB := n1_; have af := n2_; have bO := n3_; have am := n4_; have aE := n5_; have aF := n6_; clear n0_ n1_ n2_ n3_ n4_ n5_ n6_; clear hb hbox hg) | ((with_reducible refine gate_dst (N := 3) rfl ?_); refine box_event ?hg (N := 3) ?hd (cs := #[.slice none 0 0, .slice none 0 0]) (t := 28) ?hr ?_; (case hd => rfl); (case hg => rfl); (case hr => first | (go_simp; done) | (go_simp; rfl)); intro al hg w6 hbox hb; have n0_ := am_ (blk_below (rb_ ad.out) hb); have n1_ := am_ (blk_below (rb_ af.out) hb); have n2_ := am_ (below_step (b2_ HB.out ah.out am.out) hb); have n3_ := am_ (hbox); have n4_ := am_ ((by rw [hg]; exact (below_size (b2_ HB.out ah.out am.out)) : w.heap.size ≤ al)); have n5_ := am_ ((by rw [hg]; exact (below_size (b2_ HB.out ah.out am.out)) : w.heap.size ≤ al)); have n6_ := am_ ((by rw [hg]; exact Nat.ne_of_lt (blk_lt (rb_ ad.out)) : an ≠ al)); have n7_ := am_ ((by rw [hg]; exact Nat.ne_of_gt (blk_lt (rb_ ad.out)) : al ≠ an)); have n8_ := am_ ((by rw [hg]; exact Nat.ne_of_lt (blk_lt (rb_ af.out)) : ai ≠ al)); have n9_ := am_ ((by rw [hg]; exact Nat.ne_of_gt (blk_lt (rb_ af.out)) : al ≠ ai)); clear ad; clear af; clear HB; have ad := n0_; have af := n1_; have HB := n2_; have ag := n3_; have bP := n4_; have ap := n5_; have ay := n6_; have aG := n7_; have ao := n8_; have aH := n9_; clear n0_ n1_ n2_ n3_ n4_ n5_ n6_ n7_ n8_ n9_; clear hb hbox hg; have bS := aE.out; have bT := aF.out; have bU := ay.out; have bV := aG.out; have bG := ck_ (v := (.slice A0_0 l0_0.length c0_0)) ad 0 rfl; have bH := ck_ (v := (.slice A0_1 l0_1.length c0_1)) ad 1 rfl; have bI := blk_frozen ad.out 0; have bJ := blk_frozen ad.out 1) | ((with_reducible refine gate_callee (f := 29) rfl ?_); refine gL_ (some 6) Try.func29 #[.slice A0_0 l0_0.length c0_0] ?_; (with_reducible refine (laws_toBoolS.calls k _ _ l0_0 aj _ ?side1 ?side2 A2.out).mono ?_); (case side1 => exact rc_ (Kd.C_below bg.out HB.out)); (case side2 => exact bh.out); rintro e w10 ⟨bW, rfl, ho0, hb⟩; refine ⟨_, rfl, ?_⟩; have n0_ := am_ (Kd.R_lower ho0 (below_size (b3_ HB.out ah.out am.out ap.out))); have n1_ := am_ (blk_below (rb_ ad.out) hb); have n2_ := am_ (blk_below (rb_ af.out) hb); have n3_ := am_ (blk_below (rb_ ag.out) hb); have n4_ := am_ (below_step (b3_ HB.out ah.out am.out ap.out) hb); clear ad; clear af; clear ag; clear HB; have au := n0_; have ad := n1_; have af := n2_; have ag := n3_; have HB := n4_; clear n0_ n1_ n2_ n3_ n4_; (try clear hb); (try clear hb2); (try clear hk); (try clear hi); (try clear ho0); obtain ⟨aq, ar, bn⟩ := Kd.R_slice au.out; subst bn; have bQ := aH.out; have bR := ao.out; have bp := ck_ (v := (.slice none 0 0)) ag 0 rfl; have bq := ck_ (v := (.slice none 0 0)) ag 1 rfl; have br := blk_frozen ag.out 0; have bs := blk_frozen ag.out 1; have bt := ck_ (v := (.slice A0_0 l0_0.length c0_0)) ad 0 rfl; have bu := ck_ (v := (.slice A0_1 l0_1.length c0_1)) ad 1 rfl; have bv := blk_frozen ad.out 0; have bw := blk_frozen ad.out 1) | ((with_reducible refine gate_callee (f := 30) rfl ?_); refine gL_ (some 10) Try.func30 #[.slice A0_1 l0_1.length c0_1] ?_; (with_reducible refine (laws_toIntSS.calls k _ _ l0_1 ak _ ?side1 ?side2 A3.out).mono ?_); (case side1 => exact Kd.C_below bi.out (b3_ HB.out ah.out am.out ap.out)); (case side2 => exact bj.out); rintro e w15 ⟨bX, rfl, ho0, hb⟩; refine ⟨_, rfl, ?_⟩; have n0_ := am_ (Kd.R_below (rr_ (Kd.R_mono (Kd.R_far (p := ⟨al, 0, none⟩) (Kd.R_types au.out ag.out (by decide)) (fun _ hk => hk.2) (.slice aq aj.length ar)) (fun _ h_ => h_.1))) hb); have n1_ := am_ (Kd.S_lower ho0 (below_size (b3_ HB.out ah.out am.out ap.out))); have n2_ := am_ (blk_below (g := an) (o := .cells #[.slice A0_0 l0_0.length c0_0, .slice A0_1 l0_1.length c0_1] 25 (0, 0)) (by refine rb_ ?_; refine blk_far ?_ ay.out _; refine rb_ ?_; exact ad.out) hb); have n3_ := am_ (blk_below (g := ai) (o := .cells #[.slice none 0 0, .slice none 0 0] 28 (0, 0)) (by refine rb_ ?_; refine blk_far ?_ ao.out _; refine rb_ ?_; exact af.out) hb); have n4_ := am_ (blk_below (g := al) (o := .cells #[.slice aq aj.length ar, .slice none 0 0] 28 (0, 0)) (by refine rb_ ?_; refine blk_put (cs := #[.slice none 0 0, .slice none 0 0]) ?_ 0 _ rfl; refine rb_ ?_; exact ag.out) hb); have n5_ := am_ (below_step (b3_ HB.out ah.out am.out ap.out) hb); clear au; clear ad; clear af; clear ag; clear HB; have au := n0_; have aO := n1_; have ad := n2_; have af := n3_; have ag := n4_; have HB := n5_; clear n0_ n1_ n2_ n3_ n4_ n5_; (try clear hb); (try clear hb2); (try clear hk); (try clear hi); (try clear ho0); obtain ⟨aB, aC, bo⟩ := Kd.S_slice aO.out; subst bo; have bx := ck_ (v := (.slice aq aj.length ar)) ag 0 rfl; have bz := ck_ (v := (.slice none 0 0)) ag 1 rfl; have bA := blk_frozen ag.out 0; have bB := blk_frozen ag.out 1; have bC := ck_ (v := (.slice none 0 0)) af 0 rfl; have bD := ck_ (v := (.slice none 0 0)) af 1 rfl; have bE := blk_frozen af.out 0; have bF := blk_frozen af.out 1))
  refine bodyPost_ret (results_cell_row rfl _ _ ai 28 #[.slice aq aj.length ar, .slice aB ak.length aC] (0, 0) _ rfl (by refine rb_ ?_; refine blk_put (cs := #[.slice aq aj.length ar, .slice none 0 0]) ?_ 1 _ rfl; refine rb_ ?_; refine blk_put (cs := #[.slice none 0 0, .slice none 0 0]) ?_ 0 _ rfl; refine rb_ ?_; refine blk_far ?_ ao.out _; refine rb_ ?_; exact af.out) Try.underlying28 rfl (by kernel_rfl)) rfl ?_
  exact ⟨_, _, by first | rfl | (simp [errW_none, errW_some] <;> rfl) | (simp [*, errW_none, errW_some] <;> rfl), by refine rr_ ?_; exact Kd.R_mono (Kd.R_far (p := ⟨ai, 1, none⟩) (Kd.R_far (p := ⟨ai, 0, none⟩) (Kd.R_far (p := ⟨al, 1, none⟩) (Kd.R_types (Kd.R_types au.out ag.out (by decide)) af.out (by decide)) (fun _ hk => hk.1.2) (.slice aB ak.length aC)) (fun _ hk => hk.2) (.slice aq aj.length ar)) (fun _ hk => hk.2) (.slice aB ak.length aC)) (fun _ hk => trivial), by refine rs_ ?_; exact Kd.S_mono (Kd.S_far (p := ⟨ai, 1, none⟩) (Kd.S_far (p := ⟨ai, 0, none⟩) (Kd.S_far (p := ⟨al, 1, none⟩) (Kd.S_types (Kd.S_types aO.out ag.out (by decide)) af.out (by decide)) (fun _ hk => hk.1.2) (.slice aB ak.length aC)) (fun _ hk => hk.2) (.slice aq aj.length ar)) (fun _ hk => hk.2) (.slice aB ak.length aC)) (fun _ hk => trivial), by repeat (first | (with_reducible first | exact HB.out | apply below_alloc | apply pw_below_drewN | apply below_drew1 | refine below_set ?_ ah.out | refine below_set ?_ am.out | refine below_set ?_ ap.out) | exact HB.out)⟩
def impl_within.f (a0 : Int) (a1 : Int) (a2 : Int) : Option (Bool) := if a0 ≥ a1 then (some (decide (a0 ≤ a2))) else (some false)
set_option maxHeartbeats 8000000 in
set_option maxRecDepth 100000 in
theorem impl_within.calls (a0 : Int) (a1 : Int) (a2 : Int) (r : Bool) (w : World) (h : impl_within.f a0 a1 a2 = some r) :
    Calls Try.prog 49 #[.int .i64 a0, .int .i64 a1, .int .i64 a2] w fun e w' => e = .returned (.bool r) ∧ Drawn0 w w' := by
  have H : (if a0 ≥ a1 then (some (decide (a0 ≤ a2))) else (some false)) = some r := h
  clear h
  by_cases c4 : a0 ≥ a1
  · rw [if_pos c4] at H
    have c4b0 : decide (a1 ≤ a0) = true := decide_eq_true c4
    clear c4
    obtain rfl := Option.some.inj H
    simp only [Option.some.injEq, Prod.mk.injEq] at H
    obtain ⟨rfl⟩ := H
    go_enter Try.func49, Try.ntmps49
    go_wp2
    go_ret
    exact ⟨by first | rfl | (simp; done) | (simp [*]; done), by repeat (first | exact Drawn0.refl _ | apply Drawn0.step)⟩
  · rw [if_neg c4] at H
    have c4b0 : decide (a1 ≤ a0) = false := decide_eq_false c4
    clear c4
    obtain rfl := Option.some.inj H
    simp only [Option.some.injEq, Prod.mk.injEq] at H
    obtain ⟨rfl⟩ := H
    go_enter Try.func49, Try.ntmps49
    go_wp2
    go_ret
    exact ⟨by first | rfl | (simp; done) | (simp [*]; done), by repeat (first | exact Drawn0.refl _ | apply Drawn0.step)⟩
end Go.Proofs.Ytpgdhpnmagmooaa.P
end
