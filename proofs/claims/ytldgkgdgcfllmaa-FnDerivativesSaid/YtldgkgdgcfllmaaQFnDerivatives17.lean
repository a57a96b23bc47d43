/- Texts of the proof of FnDerivatives, put together. No condition. -/
import Derived.Test.YtldgkgdgcfllmaaQFnDerivatives3
import Derived.Test.YtldgkgdgcfllmaaQFnDerivatives4
import Derived.Test.YtldgkgdgcfllmaaQFnDerivatives2
section
namespace Go.Proofs.Ytldgkgdgcfllmaa.P
open Go.RowKit Go.Proofs.YtldgkgdgcfllmaaW.PrintWords Go.Proofs.YtldgkgdgcfllmaaW.PrintLast Go.Proofs.YtldgkgdgcfllmaaW.PrintMore
attribute [local go_sem] max2_int min2_int max_two min_two max_three min_three max_four min_four
set_option linter.unusedVariables false
set_option linter.unusedSimpArgs false
mutual
def spec_WordsOfLength.l0 : Nat → Int → List ByteArray → Int → Option (List ByteArray)
  | 0, _, _, _ => none
  | k + 1, x0, x3, x4 => if x4 < x0 then (spec_WordsOfLength.l1 k x0 x3 x4 (([] : List ByteArray)) 0) else (some x3)
def spec_WordsOfLength.l1 : Nat → Int → List ByteArray → Int → List ByteArray → Int → Option (List ByteArray)
  | 0, _, _, _, _, _ => none
  | k + 1, x0, x3, x4, x5, x6 => if x6 < (x3.length : Int) then (spec_WordsOfLength.l2 k x0 x3 x4 x5 x6 0) else (spec_WordsOfLength.l0 k x0 x5 (wrap64 (x4 + 1)))
def spec_WordsOfLength.l2 : Nat → Int → List ByteArray → Int → List ByteArray → Int → Int → Option (List ByteArray)
  | 0, _, _, _, _, _, _ => none
  | k + 1, x0, x3, x4, x5, x6, x7 => if x7 < 3 then (if 0 ≤ x6 then (if x6 < (x3.length : Int) then (if 0 ≤ x7 then (if x7 ≤ (wrap64 (x7 + 1)) then (if (wrap64 (x7 + 1)) ≤ 3 then (if (rdOf ByteArray.empty x3 x6).size + ((⟨#[97, 98, 99]⟩ : ByteArray).extract (x7 : Int).toNat ((wrap64 (x7 + 1)) : Int).toNat).size ≤ 9223372036854775807 then (if x5.length < 8796093022208 then (spec_WordsOfLength.l2 k x0 x3 x4 (x5 ++ [(rdOf ByteArray.empty x3 x6) ++ ((⟨#[97, 98, 99]⟩ : ByteArray).extract (x7 : Int).toNat ((wrap64 (x7 + 1)) : Int).toNat)]) x6 (wrap64 (x7 + 1))) else (none)) else (none)) else (none)) else (none)) else (none)) else (none)) else (none)) else (spec_WordsOfLength.l1 k x0 x3 x4 x5 (wrap64 (x6 + 1)))
end
def spec_WordsOfLength.f (k : Nat) (a0 : Int) : Option (List ByteArray) := (spec_l1In.f a0 0 5).bind fun ai => (if ai = true then (spec_WordsOfLength.l0 k a0 (([(⟨#[]⟩ : ByteArray)] : List ByteArray)) 0) else (some (([] : List ByteArray))))
theorem spec_WordsOfLength.mono_l : ∀ k, (∀ y0 y1 y2, LeO (spec_WordsOfLength.l0 k y0 y1 y2) (spec_WordsOfLength.l0 (k + 1) y0 y1 y2)) ∧ (∀ y0 y1 y2 y3 y4, LeO (spec_WordsOfLength.l1 k y0 y1 y2 y3 y4) (spec_WordsOfLength.l1 (k + 1) y0 y1 y2 y3 y4)) ∧ (∀ y0 y1 y2 y3 y4 y5, LeO (spec_WordsOfLength.l2 k y0 y1 y2 y3 y4 y5) (spec_WordsOfLength.l2 (k + 1) y0 y1 y2 y3 y4 y5))
 | 0 => ⟨fun _ _ _ r h => by simp [spec_WordsOfLength.l0] at h, fun _ _ _ _ _ r h => by simp [spec_WordsOfLength.l1] at h, fun _ _ _ _ _ _ r h => by simp [spec_WordsOfLength.l2] at h⟩
 | k + 1 => by
  obtain ⟨ih0, ih1, ih2⟩ := spec_WordsOfLength.mono_l k
  refine ⟨?_, ?_, ?_⟩
  ·intro y0 y1 y2
   unfold spec_WordsOfLength.l0
   repeat' first
   | (with_reducible exact ih0 _ _ _)
   | (with_reducible exact ih1 _ _ _ _ _)
   | (with_reducible exact ih2 _ _ _ _ _ _)
   | (with_reducible exact LeO.refl _)
   | (with_reducible exact LeO.none _)
   | (with_reducible refine LeO.ite ?_ ?_)
   | (with_reducible refine LeO.bind ?_ (fun _ => ?_))
   | exact ih0 _ _ _
   | exact ih1 _ _ _ _ _
   | exact ih2 _ _ _ _ _ _
   | exact LeO.none _
   | refine LeO.ite ?_ ?_
   | refine LeO.bind ?_ (fun _ => ?_)
  ·intro y0 y1 y2 y3 y4
   unfold spec_WordsOfLength.l1
   repeat' first
   | (with_reducible exact ih0 _ _ _)
   | (with_reducible exact ih1 _ _ _ _ _)
   | (with_reducible exact ih2 _ _ _ _ _ _)
   | (with_reducible exact LeO.refl _)
   | (with_reducible exact LeO.none _)
   | (with_reducible refine LeO.ite ?_ ?_)
   | (with_reducible refine LeO.bind ?_ (fun _ => ?_))
   | exact ih0 _ _ _
   | exact ih1 _ _ _ _ _
   | exact ih2 _ _ _ _ _ _
   | exact LeO.none _
   | refine LeO.ite ?_ ?_
   | refine LeO.bind ?_ (fun _ => ?_)
  ·intro y0 y1 y2 y3 y4 y5
   unfold spec_WordsOfLength.l2
   repeat' first
   | (with_reducible exact ih0 _ _ _)
   | (with_reducible exact ih1 _ _ _ _ _)
   | (with_reducible exact ih2 _ _ _ _ _ _)
   | (with_reducible exact LeO.refl _)
   | (with_reducible exact LeO.none _)
   | (with_reducible refine LeO.ite ?_ ?_)
   | (with_reducible refine LeO.bind ?_ (fun _ => ?_))
   | exact ih0 _ _ _
   | exact ih1 _ _ _ _ _
   | exact ih2 _ _ _ _ _ _
   | exact LeO.none _
   | refine LeO.ite ?_ ?_
   | refine LeO.bind ?_ (fun _ => ?_)
theorem spec_WordsOfLength.mono : ∀ a0 k, LeO (spec_WordsOfLength.f k a0) (spec_WordsOfLength.f (k + 1) a0) := by
 intro a0 k
 obtain ⟨ih0, ih1, ih2⟩ := spec_WordsOfLength.mono_l k
 unfold spec_WordsOfLength.f
 repeat' first
   | (with_reducible exact ih0 _ _ _)
   | (with_reducible exact ih1 _ _ _ _ _)
   | (with_reducible exact ih2 _ _ _ _ _ _)
   | (with_reducible exact LeO.refl _)
   | (with_reducible exact LeO.none _)
   | (with_reducible refine LeO.ite ?_ ?_)
   | (with_reducible refine LeO.bind ?_ (fun _ => ?_))
   | exact ih0 _ _ _
   | exact ih1 _ _ _ _ _
   | exact ih2 _ _ _ _ _ _
   | exact LeO.none _
   | refine LeO.ite ?_ ?_
   | refine LeO.bind ?_ (fun _ => ?_)
def spec_WordsOfLength.T14 : Bool × List (List Nat × List Nat) := (true, [([], []), ([], []), ([], []), ([1, 2], [1, 2]), ([3], [3]), ([], []), ([], []), ([6], [6]), ([5, 7], [5, 7]), ([4, 8], [4, 8]), ([9], [9]), ([0, 10], [0, 10]), ([11, 11, 0, 1, 2, 3, 4, 5, 6, 7, 8, 9, 10, 11], [0, 11])])
def spec_WordsOfLength.B14 : List Nat := [0, 0, 0, 6, 14, 0, 0, 64, 224, 510, 1022, 2047, 4095]
theorem spec_WordsOfLength.tab14 : rtab .any (opsOf Try.f66 14) = spec_WordsOfLength.T14 := by kernel_rfl
theorem spec_WordsOfLength.bits14 : waitsOk spec_WordsOfLength.T14.2 spec_WordsOfLength.B14 = true := by kernel_rfl
theorem zp51_0_ {p q : Prop} (h : p) (c : p → q := by intro h_; repeat (first | (with_reducible first | exact h_ | apply below_alloc | apply pw_below_drewN | apply below_drew1) | exact h_)) : q := c h
set_option maxHeartbeats 8000000 in
set_option maxRecDepth 100000 in
theorem spec_WordsOfLength.calls (k : Nat) (a0 : Int) (r : List ByteArray) (w : World) (h : spec_WordsOfLength.f k a0 = some r) :
  Calls Try.prog 66 #[.int .i64 a0] w fun e w' => ∃ v0_ : Value, e = .returned (v0_) ∧ Kd.R Kd.string 9 w' w.heap.size (fun _ => True) v0_ r ∧ Below w.heap.size w w' := by
 have HB := am_ (Below.refl w.heap.size w)
 have H : ((spec_l1In.f a0 0 5).bind fun ai => (if ai = true then (spec_WordsOfLength.l0 k a0 (([(⟨#[]⟩ : ByteArray)] : List ByteArray)) 0) else (some (([] : List ByteArray))))) = some r := h
 clear h
 replace H := Option.bind_eq_some_iff.mp H
 obtain ⟨ai, A20, H⟩ := H
 have A2 := am_ A20
 clear A20
 by_cases c3 : ai = true
 ·subst c3
  have H1 : (spec_WordsOfLength.l0 k a0 (([(⟨#[]⟩ : ByteArray)] : List ByteArray)) 0) = some r := by rw [if_pos rfl] at H; exact H
  clear H
  have H := H1
  clear H1
  obtain ⟨aq, hy1014⟩ : ∃ y_ : List ByteArray, y_ = (([(⟨#[]⟩ : ByteArray)] : List ByteArray)) := ⟨_, rfl⟩
  replace H : (spec_WordsOfLength.l0 k a0 aq 0) = some r := by first | (rw [hy1014]; with_reducible exact H) | (have H2_ := (Option.bind_some _ _).symm.trans H; rw [hy1014]; with_reducible exact H2_) | (have H2_ := (Option.bind_some _ _).symm.trans H; with_reducible exact H2_) | with_reducible exact H | (rw [hy1014]; exact H) | exact H
  have al := am_ hy1014
  clear hy1014
  have H' := am_ H
  clear H
  go_enter Try.func66, Try.ntmps66
  go_wp2_with (first | ((with_reducible refine gate_callee (f := 68) rfl ?_); refine gL_ (some 9) Try.func68 #[.int .i64 a0, .int .i64 0, .int .i64 5] ?_; (with_reducible refine (spec_l1In.calls a0 0 5 true _ A2.out).mono ?_); rintro e w' ⟨rfl, ⟨nd, rfl⟩⟩; refine ⟨_, rfl, ?_⟩) | ((with_reducible refine gate_dst (N := 12) rfl ?_); refine Kd.R_lit Kd.string _ 9 ?hg (N := 12) ?hd (xs := ([(⟨#[]⟩ : ByteArray)] : List ByteArray)) (inner := [.string (⟨#[]⟩ : ByteArray)]) (ok := fun _ => True) (okp := fun _ => True) ?hr ?hp (fun _ hk => hk) trivial (Below.refl _ _) (Nat.le_refl _) (by simp) ?_; (case hd => rfl); (case hg => rfl); (case hr => first | (go_simp; done) | (go_simp; rfl)); (case hp => exact (Reps.one (show Kd.M Kd.string _ _ _ (⟨#[]⟩ : ByteArray) [.string (⟨#[]⟩ : ByteArray)] from rfl) (Reps.none _ _))); intro aG w4 ho5 hb hg_ hnew_; clear hg_ hnew_; (first | rw [← al.out] at ho5 | (simp only [Int.reduceToNat] at ho5; rw [← al.out] at ho5)); replace av := am_ (Kd.R_lower ho5 (below_size (b0_ HB.out))); replace HB := am_ (below_step (b0_ HB.out) hb); clear hb ho5))
  go_loopg [3, 4] k (fun kq v3 v4 w' => ∃ (ab : List ByteArray) (af : Int), v4 = .int .i64 af ∧ Aside0 (spec_WordsOfLength.l0 kq a0 ab af = some r) ∧ Aside0 (kq ≤ k) ∧ Aside0 (Kd.R Kd.string 9 w' w.heap.size (fun _ => True) v3 ab) ∧ Aside0 (Below w.heap.size w w'))
  case atStart => exact ⟨(aq), (0), (by first | rfl | (simp; done) | (simp [*]; done)), H', ⟨Nat.le_refl _⟩, ⟨by refine rr_ ?_; exact av.out⟩, ⟨by exact zp51_0_ HB.out⟩⟩
  case round =>
   clear H'
   try clear p2
   try clear c3
   obtain ⟨ab, af, rfl, HA, HK1, ae, HB⟩ := hrel
   cases gk with
   | zero => exact absurd HA.out (by simp [spec_WordsOfLength.l0])
   | succ k1 =>
    have H := HA.out
    clear HA
    simp only [spec_WordsOfLength.l0] at H
    by_cases c6 : af < a0
    ·rw [if_pos c6] at H
     have c6b0 : decide (af < a0) = true := decide_eq_true c6
     clear c6
     obtain ⟨ar, hy1017⟩ : ∃ y_ : List ByteArray, y_ = (([] : List ByteArray)) := ⟨_, rfl⟩
     replace H : (spec_WordsOfLength.l1 k1 a0 ab af ar 0) = some r := by first | (rw [hy1017]; with_reducible exact H) | (have H2_ := (Option.bind_some _ _).symm.trans H; rw [hy1017]; with_reducible exact H2_) | (have H2_ := (Option.bind_some _ _).symm.trans H; with_reducible exact H2_) | with_reducible exact H | (rw [hy1017]; exact H) | exact H
     have am := am_ hy1017
     clear hy1017
     have H' := am_ H
     clear H
     go_wp2_with (first | ((with_reducible refine gate_dst (N := 18) rfl ?_); refine Kd.R_lit Kd.string _ 9 ?hg (N := 18) ?hd (xs := ([] : List ByteArray)) (inner := []) (ok := fun _ => True) (okp := fun _ => True) ?hr ?hp (fun _ hk => hk) trivial (Below.refl _ _) (Nat.le_refl _) (by simp) ?_; (case hd => rfl); (case hg => rfl); (case hr => first | (go_simp; done) | (go_simp; rfl)); (case hp => exact (Reps.none _ _)); intro aH w7 ho8 hb hg_ hnew_; clear hg_ hnew_; (first | rw [← am.out] at ho8 | (simp only [Int.reduceToNat] at ho8; rw [← am.out] at ho8)); have n0_ := am_ (Kd.R_elder' (rr_ ae.out) (Kd.R_base ho8) hb); have n1_ := am_ (Kd.R_lower (Kd.R_new' ho8 (Kd.R_lt (rr_ ae.out))) (below_size (b0_ HB.out))); have n2_ := am_ (below_step (b0_ HB.out) hb); clear ae; clear HB; have ae := n0_; have aw := n1_; have HB := n2_; clear n0_ n1_ n2_; clear hb ho8))
     go_loopg [5, 6] k1 (fun kq v5 v6 w' => ∃ (aj : List ByteArray) (ad : Int), v6 = .int .i64 ad ∧ Aside0 (spec_WordsOfLength.l1 kq a0 ab af aj ad = some r) ∧ Aside0 (kq ≤ k1) ∧ Aside0 (Kd.R Kd.string 9 w' w.heap.size (fun k_ => some k_ ≠ (v5 : Value).ownBlock) u3 ab) ∧ Aside0 (Kd.R Kd.string 9 w' w.heap.size (fun k_ => some k_ ≠ (u3 : Value).ownBlock) v5 aj) ∧ Aside0 (Below w.heap.size w w'))
     case atStart => exact ⟨(ar), (0), (by first | rfl | (simp; done) | (simp [*]; done)), H', ⟨Nat.le_refl _⟩, ⟨by refine rr_ ?_; exact Kd.R_mono ae.out (fun _ hk => hk.2)⟩, ⟨by refine rr_ ?_; exact Kd.R_mono aw.out (fun _ hk => hk.2)⟩, ⟨by exact zp51_0_ HB.out⟩⟩
     case round =>
      clear H'
      try clear p2
      try clear c3
      try clear c6
      try clear c6b0
      try clear p2
      obtain ⟨aj, ad, rfl, HA, HK2, ae, ag, HB⟩ := hrel
      cases gk with
      | zero => exact absurd HA.out (by simp [spec_WordsOfLength.l1])
      | succ k2 =>
       have H := HA.out
       clear HA
       simp only [spec_WordsOfLength.l1] at H
       by_cases c9 : ad < (ab.length : Int)
       ·rw [if_pos c9] at H
        have c9b0 : decide (ad < (ab.length : Int)) = true := decide_eq_true c9
        clear c9
        have H' := am_ H
        clear H
        obtain ⟨ax, ap, aD⟩ := Kd.R_slice ae.out
        subst aD
        go_wp2
        go_loopg [5, 7] k2 (fun kq v5 v7 w' => ∃ (ah : List ByteArray) (aa : Int), v7 = .int .i64 aa ∧ Aside0 (spec_WordsOfLength.l2 kq a0 ab af ah ad aa = some r) ∧ Aside0 (kq ≤ k2) ∧ Aside0 (Kd.R Kd.string 9 w' w.heap.size (fun k_ => some k_ ≠ (v5 : Value).ownBlock) (.slice ax ab.length ap) ab) ∧ Aside0 (Kd.R Kd.string 9 w' w.heap.size (fun k_ => some k_ ≠ ((.slice ax ab.length ap) : Value).ownBlock) v5 ah) ∧ Aside0 (Below w.heap.size w w'))
        case atStart => exact ⟨(aj), (0), (by first | rfl | (simp; done) | (simp [*]; done)), H', ⟨Nat.le_refl _⟩, ⟨by refine rr_ ?_; exact ae.out⟩, ⟨by refine rr_ ?_; exact ag.out⟩, ⟨by exact zp51_0_ HB.out⟩⟩
        case round =>
         clear H'
         try clear p2
         try clear c3
         try clear c6
         try clear c6b0
         try clear c9
         try clear c9b0
         try clear p2
         obtain ⟨ah, aa, rfl, HA, HK3, ae, ag, HB⟩ := hrel
         cases gk with
         | zero => exact absurd HA.out (by simp [spec_WordsOfLength.l2])
         | succ k3 =>
          have H := HA.out
          clear HA
          simp only [spec_WordsOfLength.l2] at H
          by_cases c11 : aa < 3
          ·rw [if_pos c11] at H
           have c11b0 : decide (aa < 3) = true := decide_eq_true c11
           clear c11
           by_cases c12 : 0 ≤ ad
           ·rw [if_pos c12] at H
            have c12b0 : decide (0 ≤ ad) = true := decide_eq_true c12
            clear c12
            by_cases c13 : ad < (ab.length : Int)
            ·rw [if_pos c13] at H
             have c13b0 : decide (ad < (ab.length : Int)) = true := decide_eq_true c13
             clear c13
             by_cases c14 : 0 ≤ aa
             ·rw [if_pos c14] at H
              have c14b0 := eq_true c14
              have c14b1 : decide (0 ≤ aa) = true := decide_eq_true c14
              clear c14
              by_cases c15 : aa ≤ (wrap64 (aa + 1))
              ·rw [if_pos c15] at H
               have c15b0 := eq_true c15
               have c15b1 : decide (aa ≤ (wrap64 (aa + 1))) = true := decide_eq_true c15
               by_cases c16 : (wrap64 (aa + 1)) ≤ 3
               ·rw [if_pos c16] at H
                have c16b0 := eq_true c16
                have c16b1 : decide ((wrap64 (aa + 1)) ≤ 3) = true := decide_eq_true c16
                by_cases c17 : (rdOf ByteArray.empty ab ad).size + ((⟨#[97, 98, 99]⟩ : ByteArray).extract (aa : Int).toNat ((wrap64 (aa + 1)) : Int).toNat).size ≤ 9223372036854775807
                ·rw [if_pos c17] at H
                 have c17b0 := eq_true c17
                 have c17b1 : decide ((rdOf ByteArray.empty ab ad).size + ((⟨#[97, 98, 99]⟩ : ByteArray).extract (aa : Int).toNat ((wrap64 (aa + 1)) : Int).toNat).size ≤ 9223372036854775807) = true := decide_eq_true c17
                 try have c17b2 : (9223372036854775807 < (rdOf ByteArray.empty ab ad).size + ((⟨#[97, 98, 99]⟩ : ByteArray).extract (aa : Int).toNat ((wrap64 (aa + 1)) : Int).toNat).size) = False := eq_false (Nat.not_lt.2 c17)
                 try have c17b3 : (9223372036854775807 < (rdOf ByteArray.empty ab ad).size + (((wrap64 (aa + 1)) : Int).toNat - (aa : Int).toNat)) = False := eq_false (by have h_ := c17; rw [ByteArray.size_extract, show (⟨#[97, 98, 99]⟩ : ByteArray).size = 3 from rfl] at h_; omega)
                 try have c17b5 : (9223372036854775807 < (rdOf ByteArray.empty ab ad).size + ((⟨#[97, 98, 99]⟩ : ByteArray).extract (aa : Int).toNat ((wrap64 (aa + 1)) : Int).toNat).size) = False := eq_false (by have h_ := c17; simp only [ByteArray.size_append, ByteArray.size_extract, show (⟨#[97, 98, 99]⟩ : ByteArray).size = 3 from rfl] at h_; first | omega | (simp only [decide_eq_true_eq] at *; omega))
                 by_cases c18 : ah.length < 8796093022208
                 ·rw [if_pos c18] at H
                  have LMc18 := am_ c18
                  clear c18
                  obtain ⟨au, hy1021⟩ : ∃ y_ : List ByteArray, y_ = (ah ++ [(rdOf ByteArray.empty ab ad) ++ ((⟨#[97, 98, 99]⟩ : ByteArray).extract (aa : Int).toNat ((wrap64 (aa + 1)) : Int).toNat)]) := ⟨_, rfl⟩
                  replace H : (spec_WordsOfLength.l2 k3 a0 ab af au ad (wrap64 (aa + 1))) = some r := by first | (rw [hy1021]; with_reducible exact H) | (have H2_ := (Option.bind_some _ _).symm.trans H; rw [hy1021]; with_reducible exact H2_) | (have H2_ := (Option.bind_some _ _).symm.trans H; with_reducible exact H2_) | with_reducible exact H | (rw [hy1021]; exact H) | exact H
                  have ay := am_ hy1021
                  clear hy1021
                  have H' := am_ H
                  clear H
                  try go_wp2
                  replace ae := am_ (Kd.R_drew ae.out)
                  replace ag := am_ (Kd.R_drew ag.out)
                  replace HB := am_ (below_drew1 HB.out)
                  have p1020 : 0 ≤ (ad : Int) := of_decide_eq_true ah_
                  have q1020 : ad < (ab.length : Int) := of_decide_eq_true ah_
                  obtain ⟨an, e1020, ak⟩ := Kd.at_string (Kd.R_reads' ae.out).2.2 ad p1020 q1020
                  cases e1020
                  replace p1020 := eq_true p1020
                  replace q1020 := eq_true q1020
                  refine start_ (n := 13) (S := fun w' => w'.cell? (an.add (ad).toNat) = some (.string (rdOf ByteArray.empty ab ad))) (ds := [10, 11]) (bl 13 0) (by kernel_rfl) rfl rfl (ak) (fun hHeld => ?_); refine with_tabW spec_WordsOfLength.tab14 spec_WordsOfLength.bits14 (fun HT_ HW_ => ?_)
                  generalize wr.drew = w19 at ae ag HB ak hHeld ⊢
                  refine pu_ 0 29 (bl 13 1) HT_ ?_
                  refine pu_ 1 30 (bl 13 3) HT_ ?_
                  refine pu_ 2 31 (bl 13 7) HT_ ?_
                  refine pu_ 3 32 (bl 13 15) HT_ ?_
                  refine pu_ 5 34 (bl 13 47) HT_ ?_
                  refine pu_ 6 35 (bl 13 111) HT_ ?_
                  refine pu_ 7 36 (bl 13 239) HT_ ?_
                  refine pu_ 8 37 (bl 13 495) HT_ ?_
                  refine tk_ 4 33 (bl 13 511) HT_ HW_ hHeld ?_
                  refine pu_ 9 38 (bl 13 1023) HT_ ?_
                  refine last_ (i := 10) (N := some 39) (bl 13 2047) rfl rfl (one_of HT_.out (by kernel_rfl)) (by decide) (fun K hK => ?_)
                  refine value_ (w1 := ?_) (v := ?_) (by rfl) rfl ?_ ?_
                  rotate_left 2
                  ·go_simp
                   constructor
                   ·rfl
                   ·rfl
                  refine hK.out _ _ ?_
                  clear hK K
                  refine norm_ (a' := ?_) ?_ ?_
                  rotate_left
                  ·show Act.put _ (some 39) _ = _
                   simp only [pn_, sz_, ss_, i64_w, i32_w]
                   rfl
                  refine last_ (i := 11) (N := some 40) (bl 13 4095) rfl rfl (one_of HT_.out (by kernel_rfl)) (by decide) (fun K hK => ?_)
                  refine Kd.R_append_step Kd.string (w0 := w) w.heap.size (by rfl) (.tmp 29) (.tmp 39) 48 9 (.string ⟨#[]⟩) 16 rfl Try.underlying48 info9 rfl (by decide) (by omega) u5 ah ((rdOf ByteArray.empty ab ad) ++ ((⟨#[97, 98, 99]⟩ : ByteArray).extract (aa : Int).toNat ((wrap64 (aa + 1)) : Int).toNat)) [.string ((rdOf ByteArray.empty ab ad) ++ ((⟨#[97, 98, 99]⟩ : ByteArray).extract (aa : Int).toNat ((wrap64 (aa + 1)) : Int).toNat))] (fun k_ => some k_ ≠ (.slice (some an) ab.length ap : Value).ownBlock) (fun _ => False) rfl rfl ?aP (fun _ hk => hk.elim) ?aF ?aO ?aB ?aS ?aL ?_
                  (case aP => exact rfl)
                  (case aB => exact (b0_ HB.out))
                  (case aF => exact (fun k_ hk => Kd.fresh' (Kd.R_lt (rr_ ae.out)) k_ hk))
                  (case aO => exact (rr_ ag.out))
                  (case aS => exact (below_size (b0_ HB.out)))
                  (case aL => have := LMc18.out; omega)
                  intro aI w20 ho hb hg hat
                  rw [← ay.out] at ho
                  replace ae := am_ (Kd.R_after (ok := (fun _ => True)) (by refine rr_ ?_; exact Kd.R_mono ae.out (fun _ hk => ⟨trivial, hk⟩)) hg hat)
                  replace HB := am_ (hb)
                  replace az := am_ (ho)
                  clear ag ho hb hg hat
                  refine hK.out _ _ ?_
                  clear hK K
                  refine norm_ (a' := ?_) ?_ ?_
                  rotate_left
                  ·show Act.put _ (some 40) _ = _
                   simp only [pn_, sz_, ss_, i64_w, i32_w]
                   rfl
                  refine pu_ 12 5 (bl 13 8191) HT_ ?_
                  refine done_ (done_of HT_.out (by kernel_rfl)) ?_
                  try go_wp2
                  go_roundg k3
                  case measure => have := HK1.out; have := HK2.out; have := HK3.out; omega
                  case rel => exact ⟨(au), (wrap64 (aa + 1)), (by first | rfl | (simp; done) | (simp [*]; done)), H', ⟨by have := HK1.out; have := HK2.out; have := HK3.out; omega⟩, ⟨by refine rr_ ?_; exact Kd.R_mono ae.out (fun _ hk => hk.2)⟩, ⟨by refine rr_ ?_; exact az.out⟩, ⟨by exact zp51_0_ HB.out⟩⟩
                 ·rw [if_neg c18] at H
                  exact absurd H (by simp)
                ·rw [if_neg c17] at H
                 exact absurd H (by simp)
               ·rw [if_neg c16] at H
                exact absurd H (by simp)
              ·rw [if_neg c15] at H
               exact absurd H (by simp)
             ·rw [if_neg c14] at H
              exact absurd H (by simp)
            ·rw [if_neg c13] at H
             exact absurd H (by simp)
           ·rw [if_neg c12] at H
            exact absurd H (by simp)
          ·rw [if_neg c11] at H
           have c11b0 : decide (aa < 3) = false := decide_eq_false c11
           clear c11
           have H' := am_ H
           clear H
           go_wp2
           go_roundg k3
           case measure => have := HK1.out; have := HK2.out; have := HK3.out; omega
           case rel => exact ⟨(ah), (wrap64 (ad + 1)), (by first | rfl | (simp; done) | (simp [*]; done)), H', ⟨by have := HK1.out; have := HK2.out; have := HK3.out; omega⟩, ⟨by refine rr_ ?_; exact ae.out⟩, ⟨by refine rr_ ?_; exact ag.out⟩, ⟨by exact zp51_0_ HB.out⟩⟩
       ·rw [if_neg c9] at H
        have c9b0 : decide (ad < (ab.length : Int)) = false := decide_eq_false c9
        clear c9
        have H' := am_ H
        clear H
        obtain ⟨aK, aM, aE⟩ := Kd.R_slice ae.out
        subst aE
        go_wp2
        go_roundg k2
        case measure => have := HK1.out; have := HK2.out; omega
        case rel => exact ⟨(aj), (wrap64 (af + 1)), (by first | rfl | (simp; done) | (simp [*]; done)), H', ⟨by have := HK1.out; have := HK2.out; omega⟩, ⟨by refine rr_ ?_; exact Kd.R_mono ag.out (fun _ hk => trivial)⟩, ⟨by exact zp51_0_ HB.out⟩⟩
    ·rw [if_neg c6] at H
     have c6b0 : decide (af < a0) = false := decide_eq_false c6
     clear c6
     obtain rfl := Option.some.inj H
     simp only [Option.some.injEq, Prod.mk.injEq] at H
     obtain ⟨rfl⟩ := H
     go_wp2
     go_ret
     exact ⟨_, by first | rfl | (simp [errW_none, errW_some] <;> rfl) | (simp [*, errW_none, errW_some] <;> rfl), by refine rr_ ?_; exact ae.out, by exact zp51_0_ HB.out⟩
 ·replace c3 := Bool.eq_false_iff.mpr c3
  subst c3
  have H1 : (some (([] : List ByteArray))) = some r := by rw [if_neg (show ¬ (false = true) by decide)] at H; exact H
  clear H
  have H := H1
  clear H1
  obtain ⟨aC, hy1011⟩ : ∃ y_ : List ByteArray, y_ = (([] : List ByteArray)) := ⟨_, rfl⟩
  replace H : (some aC) = some r := by first | (rw [hy1011]; with_reducible exact H) | (have H2_ := (Option.bind_some _ _).symm.trans H; rw [hy1011]; with_reducible exact H2_) | (have H2_ := (Option.bind_some _ _).symm.trans H; with_reducible exact H2_) | with_reducible exact H | (rw [hy1011]; exact H) | exact H
  have ao := am_ hy1011
  clear hy1011
  obtain rfl := Option.some.inj H
  simp only [Option.some.injEq, Prod.mk.injEq] at H
  obtain ⟨rfl⟩ := H
  go_enter Try.func66, Try.ntmps66
  go_wp2_with (first | ((with_reducible refine gate_callee (f := 68) rfl ?_); refine gL_ (some 9) Try.func68 #[.int .i64 a0, .int .i64 0, .int .i64 5] ?_; (with_reducible refine (spec_l1In.calls a0 0 5 false _ A2.out).mono ?_); rintro e w' ⟨rfl, ⟨nd, rfl⟩⟩; refine ⟨_, rfl, ?_⟩) | ((with_reducible refine gate_dst (N := 11) rfl ?_); refine Kd.R_lit Kd.string _ 9 ?hg (N := 11) ?hd (xs := ([] : List ByteArray)) (inner := []) (ok := fun _ => True) (okp := fun _ => True) ?hr ?hp (fun _ hk => hk) trivial (Below.refl _ _) (Nat.le_refl _) (by simp) ?_; (case hd => rfl); (case hg => rfl); (case hr => first | (go_simp; done) | (go_simp; rfl)); (case hp => exact (Reps.none _ _)); intro aJ w22 ho23 hb hg_ hnew_; clear hg_ hnew_; (first | rw [← ao.out] at ho23 | (simp only [Int.reduceToNat] at ho23; rw [← ao.out] at ho23)); replace aA := am_ (Kd.R_lower ho23 (below_size (b0_ HB.out))); replace HB := am_ (below_step (b0_ HB.out) hb); clear hb ho23))
  go_ret
  exact ⟨_, by first | rfl | (simp [errW_none, errW_some] <;> rfl) | (simp [*, errW_none, errW_some] <;> rfl), by refine rr_ ?_; exact aA.out, by exact zp51_0_ HB.out⟩
end Go.Proofs.Ytldgkgdgcfllmaa.P
end
section
namespace Go.Proofs.Ytldgkgdgcfllmaa.P
open Go.RowKit Go.Proofs.YtldgkgdgcfllmaaW.PrintWords Go.Proofs.YtldgkgdgcfllmaaW.PrintLast Go.Proofs.YtldgkgdgcfllmaaW.PrintMore
attribute [local go_sem] max2_int min2_int max_two min_two max_three min_three max_four min_four
set_option linter.unusedVariables false
set_option linter.unusedSimpArgs false
def spec_WordsUpTo.l0 : Nat → Int → List ByteArray → Int → Option (List ByteArray)
  | 0, _, _, _ => none
  | k + 1, x0, x3, x4 => if x4 ≤ x0 then (if x4 ≤ 5 then ((spec_WordsOfLength.f k x4).bind fun ab => (if x3.length + ab.length < 8796093022208 then (spec_WordsUpTo.l0 k x0 (x3 ++ ab) (wrap64 (x4 + 1))) else (none))) else (some x3)) else (some x3)
def spec_WordsUpTo.f (k : Nat) (a0 : Int) : Option (List ByteArray) := spec_WordsUpTo.l0 k a0 (([] : List ByteArray)) 0
theorem spec_WordsUpTo.mono_l : ∀ k, (∀ y0 y1 y2, LeO (spec_WordsUpTo.l0 k y0 y1 y2) (spec_WordsUpTo.l0 (k + 1) y0 y1 y2))
  | 0 => fun _ _ _ r h => by simp [spec_WordsUpTo.l0] at h
  | k + 1 => by
    have ih0 := spec_WordsUpTo.mono_l k
    · intro y0 y1 y2
      unfold spec_WordsUpTo.l0
      repeat' first
      | (with_reducible exact ih0 _ _ _)
      | (with_reducible exact spec_WordsOfLength.mono _ _)
      | (with_reducible exact LeO.refl _)
      | (with_reducible exact LeO.none _)
      | (with_reducible refine LeO.ite ?_ ?_)
      | (with_reducible refine LeO.bind ?_ (fun _ => ?_))
      | exact ih0 _ _ _
      | exact spec_WordsOfLength.mono _ _
      | exact LeO.none _
      | refine LeO.ite ?_ ?_
      | refine LeO.bind ?_ (fun _ => ?_)
theorem spec_WordsUpTo.mono : ∀ a0 k, LeO (spec_WordsUpTo.f k a0) (spec_WordsUpTo.f (k + 1) a0) := by
  intro a0 k
  have ih0 := spec_WordsUpTo.mono_l k
  unfold spec_WordsUpTo.f
  repeat' first
      | (with_reducible exact ih0 _ _ _)
      | (with_reducible exact spec_WordsOfLength.mono _ _)
      | (with_reducible exact LeO.refl _)
      | (with_reducible exact LeO.none _)
      | (with_reducible refine LeO.ite ?_ ?_)
      | (with_reducible refine LeO.bind ?_ (fun _ => ?_))
      | exact ih0 _ _ _
      | exact spec_WordsOfLength.mono _ _
      | exact LeO.none _
      | refine LeO.ite ?_ ?_
      | refine LeO.bind ?_ (fun _ => ?_)
theorem zp52_0_ {p q : Prop} (h : p) (c : p → q := by intro h_; repeat (first | (with_reducible first | exact h_ | apply below_alloc | apply pw_below_drewN | apply below_drew1) | exact h_)) : q := c h
set_option maxHeartbeats 8000000 in
set_option maxRecDepth 100000 in
theorem spec_WordsUpTo.calls (k : Nat) (a0 : Int) (r : List ByteArray) (w : World) (h : spec_WordsUpTo.f k a0 = some r) :
    Calls Try.prog 36 #[.int .i64 a0] w fun e w' => ∃ v0_ : Value, e = .returned (v0_) ∧ Kd.R Kd.string 9 w' w.heap.size (fun _ => True) v0_ r ∧ Below w.heap.size w w' := by
  have HB := am_ (Below.refl w.heap.size w)
  have H : (spec_WordsUpTo.l0 k a0 (([] : List ByteArray)) 0) = some r := h
  clear h
  obtain ⟨ah, hy1024⟩ : ∃ y_ : List ByteArray, y_ = (([] : List ByteArray)) := ⟨_, rfl⟩
  replace H : (spec_WordsUpTo.l0 k a0 ah 0) = some r := by first | (rw [hy1024]; with_reducible exact H) | (have H2_ := (Option.bind_some _ _).symm.trans H; rw [hy1024]; with_reducible exact H2_) | (have H2_ := (Option.bind_some _ _).symm.trans H; with_reducible exact H2_) | with_reducible exact H | (rw [hy1024]; exact H) | exact H
  have ag := am_ hy1024
  clear hy1024
  have H' := am_ H
  clear H
  go_enter Try.func36, Try.ntmps36
  go_wp2_with (first | ((with_reducible refine gate_dst (N := 5) rfl ?_); refine Kd.R_lit Kd.string _ 9 ?hg (N := 5) ?hd (xs := ([] : List ByteArray)) (inner := []) (ok := fun _ => True) (okp := fun _ => True) ?hr ?hp (fun _ hk => hk) trivial (Below.refl _ _) (Nat.le_refl _) (by simp) ?_; (case hd => rfl); (case hg => rfl); (case hr => first | (go_simp; done) | (go_simp; rfl)); (case hp => exact (Reps.none _ _)); intro ap w2 ho3 hb hg_ hnew_; clear hg_ hnew_; (first | rw [← ag.out] at ho3 | (simp only [Int.reduceToNat] at ho3; rw [← ag.out] at ho3)); replace aj := am_ (Kd.R_lower ho3 (below_size (b0_ HB.out))); replace HB := am_ (below_step (b0_ HB.out) hb); clear hb ho3))
  go_loopg [3, 4] k (fun kq v3 v4 w' => ∃ (af : List ByteArray) (aa : Int), v4 = .int .i64 aa ∧ Aside0 (spec_WordsUpTo.l0 kq a0 af aa = some r) ∧ Aside0 (kq ≤ k) ∧ Aside0 (Kd.R Kd.string 9 w' w.heap.size (fun _ => True) v3 af) ∧ Aside0 (Below w.heap.size w w'))
  case atStart => exact ⟨(ah), (0), (by first | rfl | (simp; done) | (simp [*]; done)), H', ⟨Nat.le_refl _⟩, ⟨by refine rr_ ?_; exact aj.out⟩, ⟨by exact zp52_0_ HB.out⟩⟩
  case round =>
    clear H'
    try clear p2
    try clear c3
    obtain ⟨af, aa, rfl, HA, HK1, ae, HB⟩ := hrel
    cases gk with
    | zero => exact absurd HA.out (by simp [spec_WordsUpTo.l0])
    | succ k1 =>
      have H := HA.out
      clear HA
      simp only [spec_WordsUpTo.l0] at H
      by_cases c4 : aa ≤ a0
      · rw [if_pos c4] at H
        have c4b0 : decide (aa ≤ a0) = true := decide_eq_true c4
        clear c4
        by_cases c5 : aa ≤ 5
        · rw [if_pos c5] at H
          have c5b0 : decide (aa ≤ 5) = true := decide_eq_true c5
          clear c5
          replace H := Option.bind_eq_some_iff.mp H
          obtain ⟨ab, A60, H⟩ := H
          have A6 := am_ A60
          clear A60
          by_cases c7 : af.length + ab.length < 8796093022208
          · rw [if_pos c7] at H
            have LMc7 := am_ c7
            clear c7
            obtain ⟨ai, hy1030⟩ : ∃ y_ : List ByteArray, y_ = (af ++ ab) := ⟨_, rfl⟩
            replace H : (spec_WordsUpTo.l0 k1 a0 ai (wrap64 (aa + 1))) = some r := by first | (rw [hy1030]; with_reducible exact H) | (have H2_ := (Option.bind_some _ _).symm.trans H; rw [hy1030]; with_reducible exact H2_) | (have H2_ := (Option.bind_some _ _).symm.trans H; with_reducible exact H2_) | with_reducible exact H | (rw [hy1030]; exact H) | exact H
            have ak := am_ hy1030
            clear hy1030
            have H' := am_ H
            clear H
            go_wp2_with (first | ((with_reducible refine gate_callee (f := 66) rfl ?_); refine gL_ (some 17) Try.func66 #[.int .i64 aa] ?_; (with_reducible refine (spec_WordsOfLength.calls k1 aa ab _ A6.out).mono ?_); rintro e w8 ⟨aq, rfl, ho0, hb⟩; refine ⟨_, rfl, ?_⟩; have n0_ := am_ (Kd.R_elder' (rr_ ae.out) (Kd.R_base ho0) hb); have n1_ := am_ (Kd.R_lower (Kd.R_new' ho0 (Kd.R_lt (rr_ ae.out))) (below_size (b0_ HB.out))); have n2_ := am_ (below_step (b0_ HB.out) hb); clear ae; clear HB; have ae := n0_; have ad := n1_; have HB := n2_; clear n0_ n1_ n2_; (try clear hb); (try clear hb2); (try clear hk); (try clear hi); (try clear ho0); obtain ⟨am, an, ao⟩ := Kd.R_slice ad.out; subst ao) | ((with_reducible refine gate_builtin (b := .append) (xs := #[.tmp 15, .tmp 17]) rfl ?_); at_builtin; refine Kd.R_append_rows Kd.string (w0 := w) w.heap.size rfl (.tmp 15) (.tmp 17) 48 9 (.string ⟨#[]⟩) 16 rfl Try.underlying48 info9 rfl (by decide) (by omega) u3 af ab _ _ _ (fun k_ => some k_ ≠ (.slice am ab.length an : Value).ownBlock) (fun _ => False) rfl rfl ?aO ?aR (fun _ _ h => h) (fun _ h => h.elim) ?aF ?aB ?aS ?aL ?_; (case aR => exact rc_ ((Kd.R_reads' ad.out).2.2)); (case aB => exact (b0_ HB.out)); (case aF => exact (fun k_ hk => Kd.fresh' (Kd.R_lt (rr_ ad.out)) k_ hk)); (case aO => exact (rr_ (Kd.R_mono ae.out (fun _ hk => hk.2)))); (case aS => exact (below_size (b0_ HB.out))); (case aL => have := LMc7.out; omega); intro ar w9 ho hb hg hat; rw [← ak.out] at ho; have n0_ := am_ (Kd.R_after (ok := (fun _ => True)) (rr_ ad.out) hg hat); have n1_ := am_ (hb); have n2_ := am_ (ho); clear ad; clear HB; clear ae; have ad := n0_; have HB := n1_; have al := n2_; clear n0_ n1_ n2_; clear ho hb hg hat))
            go_roundg k1
            case measure => have := HK1.out; omega
            case rel => exact ⟨(ai), (wrap64 (aa + 1)), (by first | rfl | (simp; done) | (simp [*]; done)), H', ⟨by have := HK1.out; omega⟩, ⟨by refine rr_ ?_; exact Kd.R_mono al.out (fun _ hk => trivial)⟩, ⟨by exact zp52_0_ HB.out⟩⟩
          · rw [if_neg c7] at H
            exact absurd H (by simp)
        · rw [if_neg c5] at H
          have c5b0 : decide (aa ≤ 5) = false := decide_eq_false c5
          clear c5
          obtain rfl := Option.some.inj H
          simp only [Option.some.injEq, Prod.mk.injEq] at H
          obtain ⟨rfl⟩ := H
          go_wp2
          go_ret
          exact ⟨_, by first | rfl | (simp [errW_none, errW_some] <;> rfl) | (simp [*, errW_none, errW_some] <;> rfl), by refine rr_ ?_; exact ae.out, by exact zp52_0_ HB.out⟩
      · rw [if_neg c4] at H
        have c4b0 : decide (aa ≤ a0) = false := decide_eq_false c4
        clear c4
        obtain rfl := Option.some.inj H
        simp only [Option.some.injEq, Prod.mk.injEq] at H
        obtain ⟨rfl⟩ := H
        go_wp2
        go_ret
        exact ⟨_, by first | rfl | (simp [errW_none, errW_some] <;> rfl) | (simp [*, errW_none, errW_some] <;> rfl), by refine rr_ ?_; exact ae.out, by exact zp52_0_ HB.out⟩
end Go.Proofs.Ytldgkgdgcfllmaa.P
end
