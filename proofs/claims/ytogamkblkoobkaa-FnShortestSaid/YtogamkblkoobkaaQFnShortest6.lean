/- Texts of the proof of FnShortest, put together. No condition. -/
import Derived.Test.YtogamkblkoobkaaQFnShortest2
import Derived.Test.YtogamkblkoobkaaQFnShortest5
section
namespace Go.Proofs.Ytogamkblkoobkaa.P
open Go.RowKit Go.Proofs.YtogamkblkoobkaaW.PrintWords Go.Proofs.YtogamkblkoobkaaW.PrintLast Go.Proofs.YtogamkblkoobkaaW.PrintMore
attribute [local go_sem] max2_int min2_int max_two min_two max_three min_three max_four min_four
set_option linter.unusedVariables false
set_option linter.unusedSimpArgs false
mutual
def spec_WordsOfLength.l0 : Nat → Int → List ByteArray → Int → Option (List ByteArray)
  | 0, _, _, _ => none
  | k + 1, x0, x3, x4 => if x4 < x0 then (spec_WordsOfLength.l1 k x0 x3 x4 (([] : List ByteArray)) 0) else (some x3)
def spec_WordsOfLength.l1 : Nat → Int → List ByteArray → Int → List ByteArray → Int → Option (List ByteArray)
  | 0, _, _, _, _, _ => none
  | k + 1, x0, x3, x4, x5, x6 => if x6 < (x3.length : Int) then (spec_WordsOfLength.l2 k x0 x3 x4 x5 x6 0) else (spec_WordsOfLength.l0 k x0 x5 (wrap64 (x4 + 1)))
def spec_WordsOfLength.l2 : Nat → Int → List ByteArray → Int → List ByteArray → Int → Int → Option (List ByteArray)
  | 0, _, _, _, _, _, _ => none
  | k + 1, x0, x3, x4, x5, x6, x7 => if x7 < 3 then (if 0 ≤ x6 then (if x6 < (x3.length : Int) then (if 0 ≤ x7 then (if x7 ≤ (wrap64 (x7 + 1)) then (if (wrap64 (x7 + 1)) ≤ 3 then (if (rdOf ByteArray.empty x3 x6).size + ((⟨#[97, 98, 99]⟩ : ByteArray).extract (x7 : Int).toNat ((wrap64 (x7 + 1)) : Int).toNat).size ≤ 9223372036854775807 then (if x5.length < 8796093022208 then (spec_WordsOfLength.l2 k x0 x3 x4 (x5 ++ [(rdOf ByteArray.empty x3 x6) ++ ((⟨#[97, 98, 99]⟩ : ByteArray).extract (x7 : Int).toNat ((wrap64 (x7 + 1)) : Int).toNat)]) x6 (wrap64 (x7 + 1))) else (none)) else (none)) else (none)) else (none)) else (none)) else (none)) else (none)) else (spec_WordsOfLength.l1 k x0 x3 x4 x5 (wrap64 (x6 + 1)))
end
def spec_WordsOfLength.f (k : Nat) (a0 : Int) : Option (List ByteArray) := (spec_l1In.f a0 0 5).bind fun t884 => (if t884 = true then (spec_WordsOfLength.l0 k a0 (([(⟨#[]⟩ : ByteArray)] : List ByteArray)) 0) else (some (([] : List ByteArray))))
theorem spec_WordsOfLength.mono_l : ∀ k, (∀ y0 y1 y2, LeO (spec_WordsOfLength.l0 k y0 y1 y2) (spec_WordsOfLength.l0 (k + 1) y0 y1 y2)) ∧ (∀ y0 y1 y2 y3 y4, LeO (spec_WordsOfLength.l1 k y0 y1 y2 y3 y4) (spec_WordsOfLength.l1 (k + 1) y0 y1 y2 y3 y4)) ∧ (∀ y0 y1 y2 y3 y4 y5, LeO (spec_WordsOfLength.l2 k y0 y1 y2 y3 y4 y5) (spec_WordsOfLength.l2 (k + 1) y0 y1 y2 y3 y4 y5))
 | 0 => ⟨fun _ _ _ r h => by simp [spec_WordsOfLength.l0] at h, fun _ _ _ _ _ r h => by simp [spec_WordsOfLength.l1] at h, fun _ _ _ _ _ _ r h => by simp [spec_WordsOfLength.l2] at h⟩
 | k + 1 => by
  obtain ⟨ih0, ih1, ih2⟩ := spec_WordsOfLength.mono_l k
  refine ⟨?_, ?_, ?_⟩
  ·intro y0 y1 y2
   unfold spec_WordsOfLength.l0
   repeat' first
   | (with_reducible exact ih0 _ _ _)
   | (with_reducible exact ih1 _ _ _ _ _)
   | (with_reducible exact ih2 _ _ _ _ _ _)
   | (with_reducible exact LeO.refl _)
   | (with_reducible exact LeO.none _)
   | (with_reducible refine LeO.ite ?_ ?_)
   | (with_reducible refine LeO.bind ?_ (fun _ => ?_))
   | exact ih0 _ _ _
   | exact ih1 _ _ _ _ _
   | exact ih2 _ _ _ _ _ _
   | exact LeO.none _
   | refine LeO.ite ?_ ?_
   | refine LeO.bind ?_ (fun _ => ?_)
  ·intro y0 y1 y2 y3 y4
   unfold spec_WordsOfLength.l1
   repeat' first
   | (with_reducible exact ih0 _ _ _)
   | (with_reducible exact ih1 _ _ _ _ _)
   | (with_reducible exact ih2 _ _ _ _ _ _)
   | (with_reducible exact LeO.refl _)
   | (with_reducible exact LeO.none _)
   | (with_reducible refine LeO.ite ?_ ?_)
   | (with_reducible refine LeO.bind ?_ (fun _ => ?_))
   | exact ih0 _ _ _
   | exact ih1 _ _ _ _ _
   | exact ih2 _ _ _ _ _ _
   | exact LeO.none _
   | refine LeO.ite ?_ ?_
   | refine LeO.bind ?_ (fun _ => ?_)
  ·intro y0 y1 y2 y3 y4 y5
   unfold spec_WordsOfLength.l2
   repeat' first
   | (with_reducible exact ih0 _ _ _)
   | (with_reducible exact ih1 _ _ _ _ _)
   | (with_reducible exact ih2 _ _ _ _ _ _)
   | (with_reducible exact LeO.refl _)
   | (with_reducible exact LeO.none _)
   | (with_reducible refine LeO.ite ?_ ?_)
   | (with_reducible refine LeO.bind ?_ (fun _ => ?_))
   | exact ih0 _ _ _
   | exact ih1 _ _ _ _ _
   | exact ih2 _ _ _ _ _ _
   | exact LeO.none _
   | refine LeO.ite ?_ ?_
   | refine LeO.bind ?_ (fun _ => ?_)
theorem spec_WordsOfLength.mono : ∀ a0 k, LeO (spec_WordsOfLength.f k a0) (spec_WordsOfLength.f (k + 1) a0) := by
 intro a0 k
 obtain ⟨ih0, ih1, ih2⟩ := spec_WordsOfLength.mono_l k
 unfold spec_WordsOfLength.f
 repeat' first
   | (with_reducible exact ih0 _ _ _)
   | (with_reducible exact ih1 _ _ _ _ _)
   | (with_reducible exact ih2 _ _ _ _ _ _)
   | (with_reducible exact LeO.refl _)
   | (with_reducible exact LeO.none _)
   | (with_reducible refine LeO.ite ?_ ?_)
   | (with_reducible refine LeO.bind ?_ (fun _ => ?_))
   | exact ih0 _ _ _
   | exact ih1 _ _ _ _ _
   | exact ih2 _ _ _ _ _ _
   | exact LeO.none _
   | refine LeO.ite ?_ ?_
   | refine LeO.bind ?_ (fun _ => ?_)
def spec_WordsOfLength.T14 : Bool × List (List Nat × List Nat) := (true, [([], []), ([], []), ([], []), ([1, 2], [1, 2]), ([3], [3]), ([], []), ([], []), ([6], [6]), ([5, 7], [5, 7]), ([4, 8], [4, 8]), ([9], [9]), ([0, 10], [0, 10]), ([11, 11, 0, 1, 2, 3, 4, 5, 6, 7, 8, 9, 10, 11], [0, 11])])
def spec_WordsOfLength.B14 : List Nat := [0, 0, 0, 6, 14, 0, 0, 64, 224, 510, 1022, 2047, 4095]
theorem spec_WordsOfLength.tab14 : rtab .any (opsOf Try.f106 14) = spec_WordsOfLength.T14 := by kernel_rfl
theorem spec_WordsOfLength.bits14 : waitsOk spec_WordsOfLength.T14.2 spec_WordsOfLength.B14 = true := by kernel_rfl
theorem zp46_0_ {p q : Prop} (h : p) (c : p → q := by intro h_; repeat (first | (with_reducible first | exact h_ | apply below_alloc | apply pw_below_drewN | apply below_drew1) | exact h_)) : q := c h
set_option maxHeartbeats 8000000 in
set_option maxRecDepth 100000 in
theorem spec_WordsOfLength.calls (k : Nat) (a0 : Int) (r : List ByteArray) (w : World) (h : spec_WordsOfLength.f k a0 = some r) :
  Calls Try.prog 106 #[.int .i64 a0] w fun e w' => ∃ v0_ : Value, e = .returned (v0_) ∧ Kd.R Kd.string 9 w' w.heap.size (fun _ => True) v0_ r ∧ Below w.heap.size w w' := by
 have HB := am_ (Below.refl w.heap.size w)
 have H : ((spec_l1In.f a0 0 5).bind fun t884 => (if t884 = true then (spec_WordsOfLength.l0 k a0 (([(⟨#[]⟩ : ByteArray)] : List ByteArray)) 0) else (some (([] : List ByteArray))))) = some r := h
 clear h
 replace H := Option.bind_eq_some_iff.mp H
 obtain ⟨t884, A20, H⟩ := H
 have A2 := am_ A20
 clear A20
 by_cases c3 : t884 = true
 ·subst c3
  have H1 : (spec_WordsOfLength.l0 k a0 (([(⟨#[]⟩ : ByteArray)] : List ByteArray)) 0) = some r := by rw [if_pos rfl] at H; exact H
  clear H
  have H := H1
  clear H1
  obtain ⟨y888, hy888⟩ : ∃ y_ : List ByteArray, y_ = (([(⟨#[]⟩ : ByteArray)] : List ByteArray)) := ⟨_, rfl⟩
  replace H : (spec_WordsOfLength.l0 k a0 y888 0) = some r := by first | (rw [hy888]; with_reducible exact H) | (have H2_ := (Option.bind_some _ _).symm.trans H; rw [hy888]; with_reducible exact H2_) | (have H2_ := (Option.bind_some _ _).symm.trans H; with_reducible exact H2_) | with_reducible exact H | (rw [hy888]; exact H) | exact H
  have Ny888 := am_ hy888
  clear hy888
  have H' := am_ H
  clear H
  go_enter Try.func106, Try.ntmps106
  go_wp2_with (first | ((with_reducible refine gate_callee (f := 95) rfl ?_); refine gL_ (some 9) Try.func95 #[.int .i64 a0, .int .i64 0, .int .i64 5] ?_; (with_reducible refine (spec_l1In.calls a0 0 5 true _ A2.out).mono ?_); rintro e w' ⟨rfl, ⟨nd, rfl⟩⟩; refine ⟨_, rfl, ?_⟩) | ((with_reducible refine gate_dst (N := 12) rfl ?_); refine Kd.R_lit Kd.string _ 9 ?hg (N := 12) ?hd (xs := ([(⟨#[]⟩ : ByteArray)] : List ByteArray)) (inner := [.string (⟨#[]⟩ : ByteArray)]) (ok := fun _ => True) (okp := fun _ => True) ?hr ?hp (fun _ hk => hk) trivial (Below.refl _ _) (Nat.le_refl _) (by simp) ?_; (case hd => rfl); (case hg => rfl); (case hr => first | (go_simp; done) | (go_simp; rfl)); (case hp => exact (Reps.one (show Kd.M Kd.string _ _ _ (⟨#[]⟩ : ByteArray) [.string (⟨#[]⟩ : ByteArray)] from rfl) (Reps.none _ _))); intro v889 w4 ho5 hb hg_ hnew_; clear hg_ hnew_; (first | rw [← Ny888.out] at ho5 | (simp only [Int.reduceToNat] at ho5; rw [← Ny888.out] at ho5)); replace HO890 := am_ (Kd.R_lower ho5 (below_size (b0_ HB.out))); replace HB := am_ (below_step (b0_ HB.out) hb); clear hb ho5))
  go_loopg [3, 4] k (fun kq v3 v4 w' => ∃ (x3_1 : List ByteArray) (x4_1 : Int), v4 = .int .i64 x4_1 ∧ Aside0 (spec_WordsOfLength.l0 kq a0 x3_1 x4_1 = some r) ∧ Aside0 (kq ≤ k) ∧ Aside0 (Kd.R Kd.string 9 w' w.heap.size (fun _ => True) v3 x3_1) ∧ Aside0 (Below w.heap.size w w'))
  case atStart => exact ⟨(y888), (0), (by first | rfl | (simp; done) | (simp [*]; done)), H', ⟨Nat.le_refl _⟩, ⟨by refine rr_ ?_; exact HO890.out⟩, ⟨by exact zp46_0_ HB.out⟩⟩
  case round =>
   clear H'
   try clear c1
   try clear p2
   try clear c3
   obtain ⟨x3_1, x4_1, rfl, HA, HK1, HO_3, HB⟩ := hrel
   cases gk with
   | zero => exact absurd HA.out (by simp [spec_WordsOfLength.l0])
   | succ k1 =>
    have H := HA.out
    clear HA
    simp only [spec_WordsOfLength.l0] at H
    by_cases c6 : x4_1 < a0
    ·rw [if_pos c6] at H
     have c6b0 : decide (x4_1 < a0) = true := decide_eq_true c6
     clear c6
     obtain ⟨y891, hy891⟩ : ∃ y_ : List ByteArray, y_ = (([] : List ByteArray)) := ⟨_, rfl⟩
     replace H : (spec_WordsOfLength.l1 k1 a0 x3_1 x4_1 y891 0) = some r := by first | (rw [hy891]; with_reducible exact H) | (have H2_ := (Option.bind_some _ _).symm.trans H; rw [hy891]; with_reducible exact H2_) | (have H2_ := (Option.bind_some _ _).symm.trans H; with_reducible exact H2_) | with_reducible exact H | (rw [hy891]; exact H) | exact H
     have Ny891 := am_ hy891
     clear hy891
     have H' := am_ H
     clear H
     go_wp2_with (first | ((with_reducible refine gate_dst (N := 18) rfl ?_); refine Kd.R_lit Kd.string _ 9 ?hg (N := 18) ?hd (xs := ([] : List ByteArray)) (inner := []) (ok := fun _ => True) (okp := fun _ => True) ?hr ?hp (fun _ hk => hk) trivial (Below.refl _ _) (Nat.le_refl _) (by simp) ?_; (case hd => rfl); (case hg => rfl); (case hr => first | (go_simp; done) | (go_simp; rfl)); (case hp => exact (Reps.none _ _)); intro v892 w7 ho8 hb hg_ hnew_; clear hg_ hnew_; (first | rw [← Ny891.out] at ho8 | (simp only [Int.reduceToNat] at ho8; rw [← Ny891.out] at ho8)); have n0_ := am_ (Kd.R_elder' (rr_ HO_3.out) (Kd.R_base ho8) hb); have n1_ := am_ (Kd.R_lower (Kd.R_new' ho8 (Kd.R_lt (rr_ HO_3.out))) (below_size (b0_ HB.out))); have n2_ := am_ (below_step (b0_ HB.out) hb); clear HO_3; clear HB; have HO_3 := n0_; have HO893 := n1_; have HB := n2_; clear n0_ n1_ n2_; clear hb ho8))
     go_loopg [5, 6] k1 (fun kq v5 v6 w' => ∃ (x5_2 : List ByteArray) (x6_2 : Int), v6 = .int .i64 x6_2 ∧ Aside0 (spec_WordsOfLength.l1 kq a0 x3_1 x4_1 x5_2 x6_2 = some r) ∧ Aside0 (kq ≤ k1) ∧ Aside0 (Kd.R Kd.string 9 w' w.heap.size (fun k_ => some k_ ≠ (v5 : Value).ownBlock) u3 x3_1) ∧ Aside0 (Kd.R Kd.string 9 w' w.heap.size (fun k_ => some k_ ≠ (u3 : Value).ownBlock) v5 x5_2) ∧ Aside0 (Below w.heap.size w w'))
     case atStart => exact ⟨(y891), (0), (by first | rfl | (simp; done) | (simp [*]; done)), H', ⟨Nat.le_refl _⟩, ⟨by refine rr_ ?_; exact Kd.R_mono HO_3.out (fun _ hk => hk.2)⟩, ⟨by refine rr_ ?_; exact Kd.R_mono HO893.out (fun _ hk => hk.2)⟩, ⟨by exact zp46_0_ HB.out⟩⟩
     case round =>
      clear H'
      try clear c1
      try clear p2
      try clear c3
      try clear c6
      try clear c6b0
      try clear p2
      obtain ⟨x5_2, x6_2, rfl, HA, HK2, HO_3, HO_5, HB⟩ := hrel
      cases gk with
      | zero => exact absurd HA.out (by simp [spec_WordsOfLength.l1])
      | succ k2 =>
       have H := HA.out
       clear HA
       simp only [spec_WordsOfLength.l1] at H
       by_cases c9 : x6_2 < (x3_1.length : Int)
       ·rw [if_pos c9] at H
        have c9b0 : decide (x6_2 < (x3_1.length : Int)) = true := decide_eq_true c9
        clear c9
        have H' := am_ H
        clear H
        obtain ⟨Ao10, co10, eo10⟩ := Kd.R_slice HO_3.out
        subst eo10
        go_wp2
        go_loopg [5, 7] k2 (fun kq v5 v7 w' => ∃ (x5_3 : List ByteArray) (x7_3 : Int), v7 = .int .i64 x7_3 ∧ Aside0 (spec_WordsOfLength.l2 kq a0 x3_1 x4_1 x5_3 x6_2 x7_3 = some r) ∧ Aside0 (kq ≤ k2) ∧ Aside0 (Kd.R Kd.string 9 w' w.heap.size (fun k_ => some k_ ≠ (v5 : Value).ownBlock) (.slice Ao10 x3_1.length co10) x3_1) ∧ Aside0 (Kd.R Kd.string 9 w' w.heap.size (fun k_ => some k_ ≠ ((.slice Ao10 x3_1.length co10) : Value).ownBlock) v5 x5_3) ∧ Aside0 (Below w.heap.size w w'))
        case atStart => exact ⟨(x5_2), (0), (by first | rfl | (simp; done) | (simp [*]; done)), H', ⟨Nat.le_refl _⟩, ⟨by refine rr_ ?_; exact HO_3.out⟩, ⟨by refine rr_ ?_; exact HO_5.out⟩, ⟨by exact zp46_0_ HB.out⟩⟩
        case round =>
         clear H'
         try clear c1
         try clear p2
         try clear c3
         try clear c6
         try clear c6b0
         try clear c9
         try clear c9b0
         try clear c10
         try clear p2
         obtain ⟨x5_3, x7_3, rfl, HA, HK3, HO_3, HO_5, HB⟩ := hrel
         cases gk with
         | zero => exact absurd HA.out (by simp [spec_WordsOfLength.l2])
         | succ k3 =>
          have H := HA.out
          clear HA
          simp only [spec_WordsOfLength.l2] at H
          by_cases c11 : x7_3 < 3
          ·rw [if_pos c11] at H
           have c11b0 : decide (x7_3 < 3) = true := decide_eq_true c11
           clear c11
           by_cases c12 : 0 ≤ x6_2
           ·rw [if_pos c12] at H
            have c12b0 : decide (0 ≤ x6_2) = true := decide_eq_true c12
            clear c12
            by_cases c13 : x6_2 < (x3_1.length : Int)
            ·rw [if_pos c13] at H
             have c13b0 : decide (x6_2 < (x3_1.length : Int)) = true := decide_eq_true c13
             clear c13
             by_cases c14 : 0 ≤ x7_3
             ·rw [if_pos c14] at H
              have c14b0 := eq_true c14
              have c14b1 : decide (0 ≤ x7_3) = true := decide_eq_true c14
              clear c14
              by_cases c15 : x7_3 ≤ (wrap64 (x7_3 + 1))
              ·rw [if_pos c15] at H
               have c15b0 := eq_true c15
               have c15b1 : decide (x7_3 ≤ (wrap64 (x7_3 + 1))) = true := decide_eq_true c15
               by_cases c16 : (wrap64 (x7_3 + 1)) ≤ 3
               ·rw [if_pos c16] at H
                have c16b0 := eq_true c16
                have c16b1 : decide ((wrap64 (x7_3 + 1)) ≤ 3) = true := decide_eq_true c16
                by_cases c17 : (rdOf ByteArray.empty x3_1 x6_2).size + ((⟨#[97, 98, 99]⟩ : ByteArray).extract (x7_3 : Int).toNat ((wrap64 (x7_3 + 1)) : Int).toNat).size ≤ 9223372036854775807
                ·rw [if_pos c17] at H
                 have c17b0 := eq_true c17
                 have c17b1 : decide ((rdOf ByteArray.empty x3_1 x6_2).size + ((⟨#[97, 98, 99]⟩ : ByteArray).extract (x7_3 : Int).toNat ((wrap64 (x7_3 + 1)) : Int).toNat).size ≤ 9223372036854775807) = true := decide_eq_true c17
                 try have c17b2 : (9223372036854775807 < (rdOf ByteArray.empty x3_1 x6_2).size + ((⟨#[97, 98, 99]⟩ : ByteArray).extract (x7_3 : Int).toNat ((wrap64 (x7_3 + 1)) : Int).toNat).size) = False := eq_false (Nat.not_lt.2 c17)
                 try have c17b3 : (9223372036854775807 < (rdOf ByteArray.empty x3_1 x6_2).size + (((wrap64 (x7_3 + 1)) : Int).toNat - (x7_3 : Int).toNat)) = False := eq_false (by have h_ := c17; rw [ByteArray.size_extract, show (⟨#[97, 98, 99]⟩ : ByteArray).size = 3 from rfl] at h_; omega)
                 try have c17b5 : (9223372036854775807 < (rdOf ByteArray.empty x3_1 x6_2).size + ((⟨#[97, 98, 99]⟩ : ByteArray).extract (x7_3 : Int).toNat ((wrap64 (x7_3 + 1)) : Int).toNat).size) = False := eq_false (by have h_ := c17; simp only [ByteArray.size_append, ByteArray.size_extract, show (⟨#[97, 98, 99]⟩ : ByteArray).size = 3 from rfl] at h_; first | omega | (simp only [decide_eq_true_eq] at *; omega))
                 by_cases c18 : x5_3.length < 8796093022208
                 ·rw [if_pos c18] at H
                  have LMc18 := am_ c18
                  clear c18
                  obtain ⟨y895, hy895⟩ : ∃ y_ : List ByteArray, y_ = (x5_3 ++ [(rdOf ByteArray.empty x3_1 x6_2) ++ ((⟨#[97, 98, 99]⟩ : ByteArray).extract (x7_3 : Int).toNat ((wrap64 (x7_3 + 1)) : Int).toNat)]) := ⟨_, rfl⟩
                  replace H : (spec_WordsOfLength.l2 k3 a0 x3_1 x4_1 y895 x6_2 (wrap64 (x7_3 + 1))) = some r := by first | (rw [hy895]; with_reducible exact H) | (have H2_ := (Option.bind_some _ _).symm.trans H; rw [hy895]; with_reducible exact H2_) | (have H2_ := (Option.bind_some _ _).symm.trans H; with_reducible exact H2_) | with_reducible exact H | (rw [hy895]; exact H) | exact H
                  have Ny895 := am_ hy895
                  clear hy895
                  have H' := am_ H
                  clear H
                  try go_wp2
                  replace HO_3 := am_ (Kd.R_drew HO_3.out)
                  replace HO_5 := am_ (Kd.R_drew HO_5.out)
                  replace HB := am_ (below_drew1 HB.out)
                  have p894 : 0 ≤ (x6_2 : Int) := of_decide_eq_true ah_
                  have q894 : x6_2 < (x3_1.length : Int) := of_decide_eq_true ah_
                  obtain ⟨ad894, e894, hx894_0⟩ := Kd.at_string (Kd.R_reads' HO_3.out).2.2 x6_2 p894 q894
                  cases e894
                  replace p894 := eq_true p894
                  replace q894 := eq_true q894
                  refine start_ (n := 13) (S := fun w' => w'.cell? (ad894.add (x6_2).toNat) = some (.string (rdOf ByteArray.empty x3_1 x6_2))) (ds := [10, 11]) (bl 13 0) (by kernel_rfl) rfl rfl (hx894_0) (fun hHeld => ?_); refine with_tabW spec_WordsOfLength.tab14 spec_WordsOfLength.bits14 (fun HT_ HW_ => ?_)
                  generalize wr.drew = w19 at HO_3 HO_5 HB hx894_0 hHeld ⊢
                  refine pu_ 0 29 (bl 13 1) HT_ ?_
                  refine pu_ 1 30 (bl 13 3) HT_ ?_
                  refine pu_ 2 31 (bl 13 7) HT_ ?_
                  refine pu_ 3 32 (bl 13 15) HT_ ?_
                  refine pu_ 5 34 (bl 13 47) HT_ ?_
                  refine pu_ 6 35 (bl 13 111) HT_ ?_
                  refine pu_ 7 36 (bl 13 239) HT_ ?_
                  refine pu_ 8 37 (bl 13 495) HT_ ?_
                  refine tk_ 4 33 (bl 13 511) HT_ HW_ hHeld ?_
                  refine pu_ 9 38 (bl 13 1023) HT_ ?_
                  refine last_ (i := 10) (N := some 39) (bl 13 2047) rfl rfl (one_of HT_.out (by kernel_rfl)) (by decide) (fun K hK => ?_)
                  refine value_ (w1 := ?_) (v := ?_) (by rfl) rfl ?_ ?_
                  rotate_left 2
                  ·go_simp
                   constructor
                   ·rfl
                   ·rfl
                  refine hK.out _ _ ?_
                  clear hK K
                  refine norm_ (a' := ?_) ?_ ?_
                  rotate_left
                  ·show Act.put _ (some 39) _ = _
                   simp only [pn_, sz_, ss_, i64_w, i32_w]
                   rfl
                  refine last_ (i := 11) (N := some 40) (bl 13 4095) rfl rfl (one_of HT_.out (by kernel_rfl)) (by decide) (fun K hK => ?_)
                  refine Kd.R_append_step Kd.string (w0 := w) w.heap.size (by rfl) (.tmp 29) (.tmp 39) 52 9 (.string ⟨#[]⟩) 16 rfl Try.underlying52 info9 rfl (by decide) (by omega) u5 x5_3 ((rdOf ByteArray.empty x3_1 x6_2) ++ ((⟨#[97, 98, 99]⟩ : ByteArray).extract (x7_3 : Int).toNat ((wrap64 (x7_3 + 1)) : Int).toNat)) [.string ((rdOf ByteArray.empty x3_1 x6_2) ++ ((⟨#[97, 98, 99]⟩ : ByteArray).extract (x7_3 : Int).toNat ((wrap64 (x7_3 + 1)) : Int).toNat))] (fun k_ => some k_ ≠ (.slice (some ad894) x3_1.length co10 : Value).ownBlock) (fun _ => False) rfl rfl ?aP (fun _ hk => hk.elim) ?aF ?aO ?aB ?aS ?aL ?_
                  (case aP => exact rfl)
                  (case aB => exact (b0_ HB.out))
                  (case aF => exact (fun k_ hk => Kd.fresh' (Kd.R_lt (rr_ HO_3.out)) k_ hk))
                  (case aO => exact (rr_ HO_5.out))
                  (case aS => exact (below_size (b0_ HB.out)))
                  (case aL => have := LMc18.out; omega)
                  intro v896 w20 ho hb hg hat
                  rw [← Ny895.out] at ho
                  replace HO_3 := am_ (Kd.R_after (ok := (fun _ => True)) (by refine rr_ ?_; exact Kd.R_mono HO_3.out (fun _ hk => ⟨trivial, hk⟩)) hg hat)
                  replace HB := am_ (hb)
                  replace HO897 := am_ (ho)
                  clear HO_5 ho hb hg hat
                  refine hK.out _ _ ?_
                  clear hK K
                  refine norm_ (a' := ?_) ?_ ?_
                  rotate_left
                  ·show Act.put _ (some 40) _ = _
                   simp only [pn_, sz_, ss_, i64_w, i32_w]
                   rfl
                  refine pu_ 12 5 (bl 13 8191) HT_ ?_
                  refine done_ (done_of HT_.out (by kernel_rfl)) ?_
                  try go_wp2
                  go_roundg k3
                  case measure => have := HK1.out; have := HK2.out; have := HK3.out; omega
                  case rel => exact ⟨(y895), (wrap64 (x7_3 + 1)), (by first | rfl | (simp; done) | (simp [*]; done)), H', ⟨by have := HK1.out; have := HK2.out; have := HK3.out; omega⟩, ⟨by refine rr_ ?_; exact Kd.R_mono HO_3.out (fun _ hk => hk.2)⟩, ⟨by refine rr_ ?_; exact HO897.out⟩, ⟨by exact zp46_0_ HB.out⟩⟩
                 ·rw [if_neg c18] at H
                  exact absurd H (by simp)
                ·rw [if_neg c17] at H
                 exact absurd H (by simp)
               ·rw [if_neg c16] at H
                exact absurd H (by simp)
              ·rw [if_neg c15] at H
               exact absurd H (by simp)
             ·rw [if_neg c14] at H
              exact absurd H (by simp)
            ·rw [if_neg c13] at H
             exact absurd H (by simp)
           ·rw [if_neg c12] at H
            exact absurd H (by simp)
          ·rw [if_neg c11] at H
           have c11b0 : decide (x7_3 < 3) = false := decide_eq_false c11
           clear c11
           have H' := am_ H
           clear H
           go_wp2
           go_roundg k3
           case measure => have := HK1.out; have := HK2.out; have := HK3.out; omega
           case rel => exact ⟨(x5_3), (wrap64 (x6_2 + 1)), (by first | rfl | (simp; done) | (simp [*]; done)), H', ⟨by have := HK1.out; have := HK2.out; have := HK3.out; omega⟩, ⟨by refine rr_ ?_; exact HO_3.out⟩, ⟨by refine rr_ ?_; exact HO_5.out⟩, ⟨by exact zp46_0_ HB.out⟩⟩
       ·rw [if_neg c9] at H
        have c9b0 : decide (x6_2 < (x3_1.length : Int)) = false := decide_eq_false c9
        clear c9
        have H' := am_ H
        clear H
        obtain ⟨Ao21, co21, eo21⟩ := Kd.R_slice HO_3.out
        subst eo21
        go_wp2
        go_roundg k2
        case measure => have := HK1.out; have := HK2.out; omega
        case rel => exact ⟨(x5_2), (wrap64 (x4_1 + 1)), (by first | rfl | (simp; done) | (simp [*]; done)), H', ⟨by have := HK1.out; have := HK2.out; omega⟩, ⟨by refine rr_ ?_; exact Kd.R_mono HO_5.out (fun _ hk => trivial)⟩, ⟨by exact zp46_0_ HB.out⟩⟩
    ·rw [if_neg c6] at H
     have c6b0 : decide (x4_1 < a0) = false := decide_eq_false c6
     clear c6
     obtain rfl := Option.some.inj H
     simp only [Option.some.injEq, Prod.mk.injEq] at H
     obtain ⟨rfl⟩ := H
     go_wp2
     go_ret
     exact ⟨_, by first | rfl | (simp [errW_none, errW_some] <;> rfl) | (simp [*, errW_none, errW_some] <;> rfl), by refine rr_ ?_; exact HO_3.out, by exact zp46_0_ HB.out⟩
 ·replace c3 := Bool.eq_false_iff.mpr c3
  subst c3
  have H1 : (some (([] : List ByteArray))) = some r := by rw [if_neg (show ¬ (false = true) by decide)] at H; exact H
  clear H
  have H := H1
  clear H1
  obtain ⟨y885, hy885⟩ : ∃ y_ : List ByteArray, y_ = (([] : List ByteArray)) := ⟨_, rfl⟩
  replace H : (some y885) = some r := by first | (rw [hy885]; with_reducible exact H) | (have H2_ := (Option.bind_some _ _).symm.trans H; rw [hy885]; with_reducible exact H2_) | (have H2_ := (Option.bind_some _ _).symm.trans H; with_reducible exact H2_) | with_reducible exact H | (rw [hy885]; exact H) | exact H
  have Ny885 := am_ hy885
  clear hy885
  obtain rfl := Option.some.inj H
  simp only [Option.some.injEq, Prod.mk.injEq] at H
  obtain ⟨rfl⟩ := H
  go_enter Try.func106, Try.ntmps106
  go_wp2_with (first | ((with_reducible refine gate_callee (f := 95) rfl ?_); refine gL_ (some 9) Try.func95 #[.int .i64 a0, .int .i64 0, .int .i64 5] ?_; (with_reducible refine (spec_l1In.calls a0 0 5 false _ A2.out).mono ?_); rintro e w' ⟨rfl, ⟨nd, rfl⟩⟩; refine ⟨_, rfl, ?_⟩) | ((with_reducible refine gate_dst (N := 11) rfl ?_); refine Kd.R_lit Kd.string _ 9 ?hg (N := 11) ?hd (xs := ([] : List ByteArray)) (inner := []) (ok := fun _ => True) (okp := fun _ => True) ?hr ?hp (fun _ hk => hk) trivial (Below.refl _ _) (Nat.le_refl _) (by simp) ?_; (case hd => rfl); (case hg => rfl); (case hr => first | (go_simp; done) | (go_simp; rfl)); (case hp => exact (Reps.none _ _)); intro v886 w22 ho23 hb hg_ hnew_; clear hg_ hnew_; (first | rw [← Ny885.out] at ho23 | (simp only [Int.reduceToNat] at ho23; rw [← Ny885.out] at ho23)); replace HO887 := am_ (Kd.R_lower ho23 (below_size (b0_ HB.out))); replace HB := am_ (below_step (b0_ HB.out) hb); clear hb ho23))
  go_ret
  exact ⟨_, by first | rfl | (simp [errW_none, errW_some] <;> rfl) | (simp [*, errW_none, errW_some] <;> rfl), by refine rr_ ?_; exact HO887.out, by exact zp46_0_ HB.out⟩
end Go.Proofs.Ytogamkblkoobkaa.P
end
section
namespace Go.Proofs.Ytogamkblkoobkaa.P
open Go.RowKit Go.Proofs.YtogamkblkoobkaaW.PrintWords Go.Proofs.YtogamkblkoobkaaW.PrintLast Go.Proofs.YtogamkblkoobkaaW.PrintMore
attribute [local go_sem] max2_int min2_int max_two min_two max_three min_three max_four min_four
set_option linter.unusedVariables false
set_option linter.unusedSimpArgs false
def spec_WordsUpTo.l0 : Nat → Int → List ByteArray → Int → Option (List ByteArray)
  | 0, _, _, _ => none
  | k + 1, x0, x3, x4 => if x4 ≤ x0 then (if x4 ≤ 5 then ((spec_WordsOfLength.f k x4).bind fun t901 => (if x3.length + t901.length < 8796093022208 then (spec_WordsUpTo.l0 k x0 (x3 ++ t901) (wrap64 (x4 + 1))) else (none))) else (some x3)) else (some x3)
def spec_WordsUpTo.f (k : Nat) (a0 : Int) : Option (List ByteArray) := spec_WordsUpTo.l0 k a0 (([] : List ByteArray)) 0
theorem spec_WordsUpTo.mono_l : ∀ k, (∀ y0 y1 y2, LeO (spec_WordsUpTo.l0 k y0 y1 y2) (spec_WordsUpTo.l0 (k + 1) y0 y1 y2))
  | 0 => fun _ _ _ r h => by simp [spec_WordsUpTo.l0] at h
  | k + 1 => by
    have ih0 := spec_WordsUpTo.mono_l k
    · intro y0 y1 y2
      unfold spec_WordsUpTo.l0
      repeat' first
      | (with_reducible exact ih0 _ _ _)
      | (with_reducible exact spec_WordsOfLength.mono _ _)
      | (with_reducible exact LeO.refl _)
      | (with_reducible exact LeO.none _)
      | (with_reducible refine LeO.ite ?_ ?_)
      | (with_reducible refine LeO.bind ?_ (fun _ => ?_))
      | exact ih0 _ _ _
      | exact spec_WordsOfLength.mono _ _
      | exact LeO.none _
      | refine LeO.ite ?_ ?_
      | refine LeO.bind ?_ (fun _ => ?_)
theorem spec_WordsUpTo.mono : ∀ a0 k, LeO (spec_WordsUpTo.f k a0) (spec_WordsUpTo.f (k + 1) a0) := by
  intro a0 k
  have ih0 := spec_WordsUpTo.mono_l k
  unfold spec_WordsUpTo.f
  repeat' first
      | (with_reducible exact ih0 _ _ _)
      | (with_reducible exact spec_WordsOfLength.mono _ _)
      | (with_reducible exact LeO.refl _)
      | (with_reducible exact LeO.none _)
      | (with_reducible refine LeO.ite ?_ ?_)
      | (with_reducible refine LeO.bind ?_ (fun _ => ?_))
      | exact ih0 _ _ _
      | exact spec_WordsOfLength.mono _ _
      | exact LeO.none _
      | refine LeO.ite ?_ ?_
      | refine LeO.bind ?_ (fun _ => ?_)
theorem zp47_0_ {p q : Prop} (h : p) (c : p → q := by intro h_; repeat (first | (with_reducible first | exact h_ | apply below_alloc | apply pw_below_drewN | apply below_drew1) | exact h_)) : q := c h
set_option maxHeartbeats 8000000 in
set_option maxRecDepth 100000 in
theorem spec_WordsUpTo.calls (k : Nat) (a0 : Int) (r : List ByteArray) (w : World) (h : spec_WordsUpTo.f k a0 = some r) :
    Calls Try.prog 40 #[.int .i64 a0] w fun e w' => ∃ v0_ : Value, e = .returned (v0_) ∧ Kd.R Kd.string 9 w' w.heap.size (fun _ => True) v0_ r ∧ Below w.heap.size w w' := by
  have HB := am_ (Below.refl w.heap.size w)
  have H : (spec_WordsUpTo.l0 k a0 (([] : List ByteArray)) 0) = some r := h
  clear h
  obtain ⟨y898, hy898⟩ : ∃ y_ : List ByteArray, y_ = (([] : List ByteArray)) := ⟨_, rfl⟩
  replace H : (spec_WordsUpTo.l0 k a0 y898 0) = some r := by first | (rw [hy898]; with_reducible exact H) | (have H2_ := (Option.bind_some _ _).symm.trans H; rw [hy898]; with_reducible exact H2_) | (have H2_ := (Option.bind_some _ _).symm.trans H; with_reducible exact H2_) | with_reducible exact H | (rw [hy898]; exact H) | exact H
  have Ny898 := am_ hy898
  clear hy898
  have H' := am_ H
  clear H
  go_enter Try.func40, Try.ntmps40
  go_wp2_with (first | ((with_reducible refine gate_dst (N := 5) rfl ?_); refine Kd.R_lit Kd.string _ 9 ?hg (N := 5) ?hd (xs := ([] : List ByteArray)) (inner := []) (ok := fun _ => True) (okp := fun _ => True) ?hr ?hp (fun _ hk => hk) trivial (Below.refl _ _) (Nat.le_refl _) (by simp) ?_; (case hd => rfl); (case hg => rfl); (case hr => first | (go_simp; done) | (go_simp; rfl)); (case hp => exact (Reps.none _ _)); intro v899 w2 ho3 hb hg_ hnew_; clear hg_ hnew_; (first | rw [← Ny898.out] at ho3 | (simp only [Int.reduceToNat] at ho3; rw [← Ny898.out] at ho3)); replace HO900 := am_ (Kd.R_lower ho3 (below_size (b0_ HB.out))); replace HB := am_ (below_step (b0_ HB.out) hb); clear hb ho3))
  go_loopg [3, 4] k (fun kq v3 v4 w' => ∃ (x3_1 : List ByteArray) (x4_1 : Int), v4 = .int .i64 x4_1 ∧ Aside0 (spec_WordsUpTo.l0 kq a0 x3_1 x4_1 = some r) ∧ Aside0 (kq ≤ k) ∧ Aside0 (Kd.R Kd.string 9 w' w.heap.size (fun _ => True) v3 x3_1) ∧ Aside0 (Below w.heap.size w w'))
  case atStart => exact ⟨(y898), (0), (by first | rfl | (simp; done) | (simp [*]; done)), H', ⟨Nat.le_refl _⟩, ⟨by refine rr_ ?_; exact HO900.out⟩, ⟨by exact zp47_0_ HB.out⟩⟩
  case round =>
    clear H'
    try clear p2
    obtain ⟨x3_1, x4_1, rfl, HA, HK1, HO_3, HB⟩ := hrel
    cases gk with
    | zero => exact absurd HA.out (by simp [spec_WordsUpTo.l0])
    | succ k1 =>
      have H := HA.out
      clear HA
      simp only [spec_WordsUpTo.l0] at H
      by_cases c4 : x4_1 ≤ a0
      · rw [if_pos c4] at H
        have c4b0 : decide (x4_1 ≤ a0) = true := decide_eq_true c4
        clear c4
        by_cases c5 : x4_1 ≤ 5
        · rw [if_pos c5] at H
          have c5b0 : decide (x4_1 ≤ 5) = true := decide_eq_true c5
          clear c5
          replace H := Option.bind_eq_some_iff.mp H
          obtain ⟨t901, A60, H⟩ := H
          have A6 := am_ A60
          clear A60
          by_cases c7 : x3_1.length + t901.length < 8796093022208
          · rw [if_pos c7] at H
            have LMc7 := am_ c7
            clear c7
            obtain ⟨y904, hy904⟩ : ∃ y_ : List ByteArray, y_ = (x3_1 ++ t901) := ⟨_, rfl⟩
            replace H : (spec_WordsUpTo.l0 k1 a0 y904 (wrap64 (x4_1 + 1))) = some r := by first | (rw [hy904]; with_reducible exact H) | (have H2_ := (Option.bind_some _ _).symm.trans H; rw [hy904]; with_reducible exact H2_) | (have H2_ := (Option.bind_some _ _).symm.trans H; with_reducible exact H2_) | with_reducible exact H | (rw [hy904]; exact H) | exact H
            have Ny904 := am_ hy904
            clear hy904
            have H' := am_ H
            clear H
            go_wp2_with (first | ((with_reducible refine gate_callee (f := 106) rfl ?_); refine gL_ (some 17) Try.func106 #[.int .i64 x4_1] ?_; (with_reducible refine (spec_WordsOfLength.calls k1 x4_1 t901 _ A6.out).mono ?_); rintro e w8 ⟨v902, rfl, ho0, hb⟩; refine ⟨_, rfl, ?_⟩; have n0_ := am_ (Kd.R_elder' (rr_ HO_3.out) (Kd.R_base ho0) hb); have n1_ := am_ (Kd.R_lower (Kd.R_new' ho0 (Kd.R_lt (rr_ HO_3.out))) (below_size (b0_ HB.out))); have n2_ := am_ (below_step (b0_ HB.out) hb); clear HO_3; clear HB; have HO_3 := n0_; have HO903 := n1_; have HB := n2_; clear n0_ n1_ n2_; (try clear hb); (try clear hb2); (try clear hk); (try clear hi); (try clear ho0); obtain ⟨Ao10, co10, eo10⟩ := Kd.R_slice HO903.out; subst eo10) | ((with_reducible refine gate_builtin (b := .append) (xs := #[.tmp 15, .tmp 17]) rfl ?_); at_builtin; refine Kd.R_append_rows Kd.string (w0 := w) w.heap.size rfl (.tmp 15) (.tmp 17) 52 9 (.string ⟨#[]⟩) 16 rfl Try.underlying52 info9 rfl (by decide) (by omega) u3 x3_1 t901 _ _ _ (fun k_ => some k_ ≠ (.slice Ao10 t901.length co10 : Value).ownBlock) (fun _ => False) rfl rfl ?aO ?aR (fun _ _ h => h) (fun _ h => h.elim) ?aF ?aB ?aS ?aL ?_; (case aR => exact rc_ ((Kd.R_reads' HO903.out).2.2)); (case aB => exact (b0_ HB.out)); (case aF => exact (fun k_ hk => Kd.fresh' (Kd.R_lt (rr_ HO903.out)) k_ hk)); (case aO => exact (rr_ (Kd.R_mono HO_3.out (fun _ hk => hk.2)))); (case aS => exact (below_size (b0_ HB.out))); (case aL => have := LMc7.out; omega); intro v905 w9 ho hb hg hat; rw [← Ny904.out] at ho; have n0_ := am_ (Kd.R_after (ok := (fun _ => True)) (rr_ HO903.out) hg hat); have n1_ := am_ (hb); have n2_ := am_ (ho); clear HO903; clear HB; clear HO_3; have HO903 := n0_; have HB := n1_; have HO906 := n2_; clear n0_ n1_ n2_; clear ho hb hg hat))
            go_roundg k1
            case measure => have := HK1.out; omega
            case rel => exact ⟨(y904), (wrap64 (x4_1 + 1)), (by first | rfl | (simp; done) | (simp [*]; done)), H', ⟨by have := HK1.out; omega⟩, ⟨by refine rr_ ?_; exact Kd.R_mono HO906.out (fun _ hk => trivial)⟩, ⟨by exact zp47_0_ HB.out⟩⟩
          · rw [if_neg c7] at H
            exact absurd H (by simp)
        · rw [if_neg c5] at H
          have c5b0 : decide (x4_1 ≤ 5) = false := decide_eq_false c5
          clear c5
          obtain rfl := Option.some.inj H
          simp only [Option.some.injEq, Prod.mk.injEq] at H
          obtain ⟨rfl⟩ := H
          go_wp2
          go_ret
          exact ⟨_, by first | rfl | (simp [errW_none, errW_some] <;> rfl) | (simp [*, errW_none, errW_some] <;> rfl), by refine rr_ ?_; exact HO_3.out, by exact zp47_0_ HB.out⟩
      · rw [if_neg c4] at H
        have c4b0 : decide (x4_1 ≤ a0) = false := decide_eq_false c4
        clear c4
        obtain rfl := Option.some.inj H
        simp only [Option.some.injEq, Prod.mk.injEq] at H
        obtain ⟨rfl⟩ := H
        go_wp2
        go_ret
        exact ⟨_, by first | rfl | (simp [errW_none, errW_some] <;> rfl) | (simp [*, errW_none, errW_some] <;> rfl), by refine rr_ ?_; exact HO_3.out, by exact zp47_0_ HB.out⟩
end Go.Proofs.Ytogamkblkoobkaa.P
end
section
namespace Go.Proofs.Ytogamkblkoobkaa.P
open Go.RowKit Go.Proofs.YtogamkblkoobkaaW.PrintWords Go.Proofs.YtogamkblkoobkaaW.PrintLast Go.Proofs.YtogamkblkoobkaaW.PrintMore
attribute [local go_sem] max2_int min2_int max_two min_two max_three min_three max_four min_four
set_option linter.unusedVariables false
set_option linter.unusedSimpArgs false
mutual
def spec_l5Draw.l0 : Nat → Int → Int → List Int → Int → Int → List Bool → List (List Int) → Option (List Bool × (List (List Int)) × Int × Int)
  | 0, _, _, _, _, _, _, _ => none
  | k + 1, x5, x7, x1000, x1001, x1002, x572000, x572001 => if x7 < x5 then ((spec_l1Once.f x1000 x1001 x1002 2).bind fun bt572 => (if x572000.length < 140737488355328 then (spec_l5Draw.l1 k x5 x7 (([] : List Int)) 0 x1000 bt572.2.1 bt572.2.2 (x572000 ++ [bt572.1]) x572001) else (none))) else (some (x572000, x572001, x1001, x1002))
def spec_l5Draw.l1 : Nat → Int → Int → List Int → Int → List Int → Int → Int → List Bool → List (List Int) → Option (List Bool × (List (List Int)) × Int × Int)
  | 0, _, _, _, _, _, _, _, _, _ => none
  | k + 1, x5, x7, x8, x9, x1000, x1001, x1002, x572000, x572001 => if x9 < 3 then ((spec_l1Below.f x1000 x1001 x1002 x5).bind fun bt581 => (if x8.length < 17592186044416 then (spec_l5Draw.l1 k x5 x7 (x8 ++ [bt581.1]) (wrap64 (x9 + 1)) x1000 bt581.2.1 bt581.2.2 x572000 x572001) else (none))) else (if x572001.length < 5864062014805 then (spec_l5Draw.l0 k x5 (wrap64 (x7 + 1)) x1000 x1001 x1002 x572000 (x572001 ++ [x8])) else (none))
end
def spec_l5Draw.f (k : Nat) (s0_0 : List Int) (s0_1 : Int) (s0_2 : Int) (a1 : Int) : Option (List Bool × (List (List Int)) × Int × Int) := (spec_l1Below.f s0_0 s0_1 s0_2 a1).bind fun bt568 => (spec_l5Draw.l0 k (wrap64 (1 + bt568.1)) 0 s0_0 bt568.2.1 bt568.2.2 ([] : List Bool) ([] : List (List Int)))
theorem spec_l5Draw.mono_l : ∀ k, (∀ y0 y1 y2 y3 y4 y5 y6, LeO (spec_l5Draw.l0 k y0 y1 y2 y3 y4 y5 y6) (spec_l5Draw.l0 (k + 1) y0 y1 y2 y3 y4 y5 y6)) ∧ (∀ y0 y1 y2 y3 y4 y5 y6 y7 y8, LeO (spec_l5Draw.l1 k y0 y1 y2 y3 y4 y5 y6 y7 y8) (spec_l5Draw.l1 (k + 1) y0 y1 y2 y3 y4 y5 y6 y7 y8))
 | 0 => ⟨fun _ _ _ _ _ _ _ r h => by simp [spec_l5Draw.l0] at h, fun _ _ _ _ _ _ _ _ _ r h => by simp [spec_l5Draw.l1] at h⟩
 | k + 1 => by
  obtain ⟨ih0, ih1⟩ := spec_l5Draw.mono_l k
  refine ⟨?_, ?_⟩
  ·intro y0 y1 y2 y3 y4 y5 y6
   unfold spec_l5Draw.l0
   repeat' first
   | (with_reducible exact ih0 _ _ _ _ _ _ _)
   | (with_reducible exact ih1 _ _ _ _ _ _ _ _ _)
   | (with_reducible exact LeO.refl _)
   | (with_reducible exact LeO.none _)
   | (with_reducible refine LeO.ite ?_ ?_)
   | (with_reducible refine LeO.bind ?_ (fun _ => ?_))
   | exact ih0 _ _ _ _ _ _ _
   | exact ih1 _ _ _ _ _ _ _ _ _
   | exact LeO.none _
   | refine LeO.ite ?_ ?_
   | refine LeO.bind ?_ (fun _ => ?_)
  ·intro y0 y1 y2 y3 y4 y5 y6 y7 y8
   unfold spec_l5Draw.l1
   repeat' first
   | (with_reducible exact ih0 _ _ _ _ _ _ _)
   | (with_reducible exact ih1 _ _ _ _ _ _ _ _ _)
   | (with_reducible exact LeO.refl _)
   | (with_reducible exact LeO.none _)
   | (with_reducible refine LeO.ite ?_ ?_)
   | (with_reducible refine LeO.bind ?_ (fun _ => ?_))
   | exact ih0 _ _ _ _ _ _ _
   | exact ih1 _ _ _ _ _ _ _ _ _
   | exact LeO.none _
   | refine LeO.ite ?_ ?_
   | refine LeO.bind ?_ (fun _ => ?_)
theorem spec_l5Draw.mono : ∀ a0 a1 a2 a3 k, LeO (spec_l5Draw.f k a0 a1 a2 a3) (spec_l5Draw.f (k + 1) a0 a1 a2 a3) := by
 intro a0 a1 a2 a3 k
 obtain ⟨ih0, ih1⟩ := spec_l5Draw.mono_l k
 unfold spec_l5Draw.f
 repeat' first
   | (with_reducible exact ih0 _ _ _ _ _ _ _)
   | (with_reducible exact ih1 _ _ _ _ _ _ _ _ _)
   | (with_reducible exact LeO.refl _)
   | (with_reducible exact LeO.none _)
   | (with_reducible refine LeO.ite ?_ ?_)
   | (with_reducible refine LeO.bind ?_ (fun _ => ?_))
   | exact ih0 _ _ _ _ _ _ _
   | exact ih1 _ _ _ _ _ _ _ _ _
   | exact LeO.none _
   | refine LeO.ite ?_ ?_
   | refine LeO.bind ?_ (fun _ => ?_)
def spec_l5Draw.T6 : Bool × List (List Nat × List Nat) := (true, [([], []), ([0], [0]), ([], []), ([2], [2]), ([3], [3]), ([1, 4, 3], [1, 4]), ([0, 1, 2, 3, 4, 5], []), ([6, 5, 5, 0, 1, 2, 3, 4, 5], [5, 6])])
def spec_l5Draw.B6 : List Nat := [0, 1, 0, 4, 12, 31, 63, 127]
theorem spec_l5Draw.tab6 : rtab .any (opsOf Try.f86 6) = spec_l5Draw.T6 := by kernel_rfl
theorem spec_l5Draw.bits6 : waitsOk spec_l5Draw.T6.2 spec_l5Draw.B6 = true := by kernel_rfl
theorem zp31_0_ {p q g1 : Prop} (h : p) (h1 : g1) (c : p → g1 → q := by intro h_ h1_; repeat (first | (with_reducible first | exact h_ | apply IsS125.alloc | apply IsS125.drewN | apply IsS125.drew | apply IsS125.set_1 | apply IsS125.set_2 | refine IsS125.far ?_ h1_ _) | exact h_)) : q := c h h1
theorem zp31_1_ {p q g1 g2 : Prop} (h : p) (h1 : g1) (h2 : g2) (c : p → g1 → g2 → q := by intro h_ h1_ h2_; repeat (first | (with_reducible first | exact h_ | apply IsS125.alloc | apply IsS125.drewN | apply IsS125.drew | apply IsS125.set_1 | apply IsS125.set_2 | refine IsS125.far ?_ h1_ _ | refine IsS125.far ?_ h2_ _) | exact h_)) : q := c h h1 h2
theorem zp31_2_ {p q g1 g2 : Prop} (h : p) (h1 : g1) (h2 : g2) (c : p → g1 → g2 → q := by intro h_ h1_ h2_; repeat (first | (with_reducible first | exact h_ | apply KeepBut.set_ | apply keep_drewN | apply keep_drew | apply keep_alloc | refine keep_far ?_ h1_ _ | refine keep_far ?_ h2_ _) | exact h_)) : q := c h h1 h2
theorem zp31_3_ {p q g1 g2 g3 : Prop} (h : p) (h1 : g1) (h2 : g2) (h3 : g3) (c : p → g1 → g2 → g3 → q := by intro h_ h1_ h2_ h3_; repeat (first | (with_reducible first | exact h_ | apply below_alloc | apply pw_below_drewN | apply below_drew1 | refine below_set ?_ h1_ | refine below_set ?_ h2_ | refine below_set ?_ h3_) | exact h_)) : q := c h h1 h2 h3
set_option maxHeartbeats 8000000 in
set_option maxRecDepth 100000 in
theorem spec_l5Draw.calls (k : Nat) (g : Nat) (s0_0 : List Int) (s0_1 : Int) (s0_2 : Int) (a1 : Int) (r1 : List Bool) (r2 : List (List Int)) (r3 : Int) (r4 : Int) (w0 w : World) (hI : IsS125 w0 w g s0_0 s0_1 s0_2) (hB : Below w0.heap.size w0 w) (h : spec_l5Draw.f k s0_0 s0_1 s0_2 a1 = some (r1, r2, r3, r4)) :
  Calls Try.prog 86 #[.pointer (some ⟨g, 0, none⟩), .int .i64 a1] w fun e w' => ∃ v0_ v1_ : Value, e = .returned (.agg #[v0_, v1_]) ∧ Kd.R Kd.bool 4 w' w.heap.size (fun _ => True) v0_ r1 ∧ Kd.S (Kd.slice 3 (Kd.int .i64)) 67 w' w.heap.size (fun _ => True) v1_ r2 ∧ IsS125 w0 w' g s0_0 r3 r4 ∧ Below w0.heap.size w0 w' ∧ KeepBut w w' g none := by
 have hu27 := Try.underlying27
 have HI0 := am_ hI
 have HK := am_ (KeepBut.refl w g none)
 have HL := am_ hB.size
 clear hI
 have HW0 := am_ hB.size
 have HB := am_ hB
 clear hB
 have H : ((spec_l1Below.f s0_0 s0_1 s0_2 a1).bind fun bt568 => (spec_l5Draw.l0 k (wrap64 (1 + bt568.1)) 0 s0_0 bt568.2.1 bt568.2.2 ([] : List Bool) ([] : List (List Int)))) = some (r1, r2, r3, r4) := h
 clear h
 replace H := Option.bind_eq_some_iff.mp H
 obtain ⟨⟨t568, t569, t570⟩, A30, H⟩ := H
 have A3 := am_ A30
 clear A30
 have H' := am_ H
 clear H
 go_enter Try.func86, Try.ntmps86
 go_wp2_with (first | ((with_reducible refine gate_dst (N := 4) rfl ?_); refine box_event ?hg (N := 4) ?hd (cs := #[.slice none 0 0, .slice none 0 0]) (t := 27) ?hr ?_; (case hd => rfl); (case hg => rfl); (case hr => first | (go_simp; done) | (go_simp; rfl)); intro gb567 hg w4 hbox hb; have n0_ := am_ (IsS125.below (by repeat (first | (with_reducible first | exact HI0.out | apply IsS125.alloc | apply IsS125.drewN | apply IsS125.drew | apply IsS125.set_1 | apply IsS125.set_2) | exact HI0.out)) hb); have n1_ := am_ (KeepBut.trans (k0_ HK.out) (KeepBut.of_below hb g none) (.inl rfl)); have n2_ := am_ (below_step (b1_ HB.out (IsS125.ge HI0.out)) hb); have n3_ := am_ (hbox); have n4_ := am_ ((by rw [hg]; exact (keep_size (w := w) (g := g) (row := none) (k0_ HK.out)) : w.heap.size ≤ gb567)); have n5_ := am_ ((Nat.le_trans HW0.out (by rw [hg]; exact (keep_size (w := w) (g := g) (row := none) (k0_ HK.out)) : w.heap.size ≤ gb567) : w0.heap.size ≤ gb567)); have n6_ := am_ ((by rw [hg]; exact Nat.ne_of_lt (IsS125.lt (show IsS125 w0 _ g s0_0 s0_1 s0_2 from by repeat (first | (with_reducible first | exact HI0.out | apply IsS125.alloc | apply IsS125.drewN | apply IsS125.drew | apply IsS125.set_1 | apply IsS125.set_2) | exact HI0.out))) : g ≠ gb567)); have n7_ := am_ ((by rw [hg]; exact Nat.ne_of_gt (IsS125.lt (show IsS125 w0 _ g s0_0 s0_1 s0_2 from by repeat (first | (with_reducible first | exact HI0.out | apply IsS125.alloc | apply IsS125.drewN | apply IsS125.drew | apply IsS125.set_1 | apply IsS125.set_2) | exact HI0.out))) : gb567 ≠ g)); clear HI0; clear HK; clear HB; have HI0 := n0_; have HK := n1_; have HB := n2_; have BK567 := n3_; have GW567 := n4_; have GE567 := n5_; have NB0_567 := n6_; have NB567_0 := n7_; clear n0_ n1_ n2_ n3_ n4_ n5_ n6_ n7_; clear hb hbox hg) | ((with_reducible refine gate_callee (f := 107) rfl ?_); refine gL_ (some 12) Try.func107 #[.pointer (some ⟨g, 0, none⟩), .int .i64 a1] ?_; (with_reducible refine (spec_l1Below.calls g s0_0 s0_1 s0_2 a1 t568 t569 t570 w0 _ ?side1 ?side2 A3.out).mono ?_); (case side1 => exact zp31_0_ HI0.out NB0_567.out); (case side2 => repeat (first | (with_reducible first | exact HB.out | apply below_alloc | apply pw_below_drewN | apply below_drew1 | refine below_set ?_ (IsS125.ge HI0.out) | refine below_set ?_ GE567.out) | exact HB.out)); rintro e w5 ⟨rfl, hi, hb, hk⟩; refine ⟨_, rfl, ?_⟩; have n0_ := am_ (KeepBut.blk hk (g' := gb567) (o := .cells #[.slice none 0 0, .slice none 0 0] 27 (0, 0)) (rb_ BK567.out) NB567_0.out (by simp)); have n1_ := am_ (KeepBut.trans (k1_ HK.out GW567.out) hk (.inl rfl)); have n2_ := am_ (hb); have n3_ := am_ (hi); clear BK567; clear HK; clear HB; clear HI0; have BK567 := n0_; have HK := n1_; have HB := n2_; have HI0 := n3_; clear n0_ n1_ n2_ n3_; (try clear hb); (try clear hb2); (try clear hk); (try clear hi)) | ((with_reducible refine gate_dst (N := 6) rfl ?_); refine box_event ?hg (N := 6) ?hd (cs := #[.slice none 0 0, .slice none 0 0]) (t := 27) ?hr ?_; (case hd => rfl); (case hg => rfl); (case hr => first | (go_simp; done) | (go_simp; rfl)); intro gb571 hg w6 hbox hb; have n0_ := am_ (IsS125.below (zp31_0_ HI0.out NB0_567.out) hb); have n1_ := am_ (blk_below (rb_ BK567.out) hb); have n2_ := am_ (KeepBut.trans (k1_ HK.out GW567.out) (KeepBut.of_below hb g none) (.inl rfl)); have n3_ := am_ (below_step (b2_ HB.out (IsS125.ge HI0.out) GE567.out) hb); have n4_ := am_ (hbox); have n5_ := am_ ((by rw [hg]; exact (keep_size (w := w) (g := g) (row := none) (k1_ HK.out GW567.out)) : w.heap.size ≤ gb571)); have n6_ := am_ ((Nat.le_trans HW0.out (by rw [hg]; exact (keep_size (w := w) (g := g) (row := none) (k1_ HK.out GW567.out)) : w.heap.size ≤ gb571) : w0.heap.size ≤ gb571)); have n7_ := am_ ((by rw [hg]; exact Nat.ne_of_lt (blk_lt (rb_ BK567.out)) : gb567 ≠ gb571)); have n8_ := am_ ((by rw [hg]; exact Nat.ne_of_gt (blk_lt (rb_ BK567.out)) : gb571 ≠ gb567)); have n9_ := am_ ((by rw [hg]; exact Nat.ne_of_lt (IsS125.lt (show IsS125 w0 _ g s0_0 t569 t570 from by exact zp31_0_ HI0.out NB0_567.out)) : g ≠ gb571)); have n10_ := am_ ((by rw [hg]; exact Nat.ne_of_gt (IsS125.lt (show IsS125 w0 _ g s0_0 t569 t570 from by exact zp31_0_ HI0.out NB0_567.out)) : gb571 ≠ g)); clear HI0; clear BK567; clear HK; clear HB; have HI0 := n0_; have BK567 := n1_; have HK := n2_; have HB := n3_; have BK571 := n4_; have GW571 := n5_; have GE571 := n6_; have NB567_571 := n7_; have NB571_567 := n8_; have NB0_571 := n9_; have NB571_0 := n10_; clear n0_ n1_ n2_ n3_ n4_ n5_ n6_ n7_ n8_ n9_ n10_; clear hb hbox hg; have hnb7 := NB571_567.out; have hnc7 := NB567_571.out; have hnb8 := NB571_0.out; have hnc8 := NB0_571.out; have hcz9_0 : w6.cell? ⟨gb571, 0, none⟩ = some (.slice none 0 0) := (blk_cell BK571.out 0).trans rfl; have hcz9_1 : w6.cell? ⟨gb571, 1, none⟩ = some (.slice none 0 0) := (blk_cell BK571.out 1).trans rfl; have hfz9_0 := blk_frozen BK571.out 0; have hfz9_1 := blk_frozen BK571.out 1))
 go_loopg [7] k (fun kq v7 w' => ∃ (x7_1 : Int) (x1001_1 : Int) (x1002_1 : Int) (x572000_1 : List Bool) (x572001_1 : List (List Int)) (u572000 : Value) (u572001 : Value), v7 = .int .i64 x7_1 ∧ Aside0 (spec_l5Draw.l0 kq (wrap64 (1 + t568)) x7_1 s0_0 x1001_1 x1002_1 x572000_1 x572001_1 = some (r1, r2, r3, r4)) ∧ Aside0 (kq ≤ k) ∧ Aside0 (Kd.R Kd.bool 4 w' w.heap.size (fun _ => True) u572000 x572000_1) ∧ Aside0 (Kd.S (Kd.slice 3 (Kd.int .i64)) 67 w' w.heap.size (fun _ => True) u572001 x572001_1) ∧ Aside0 (w'.heap[gb567]? = some (.cells #[(.slice none 0 0), (.slice none 0 0)] 27 (0, 0))) ∧ Aside0 (w'.heap[gb571]? = some (.cells #[u572000, u572001] 27 (0, 0))) ∧ Aside0 (IsS125 w0 w' g s0_0 x1001_1 x1002_1) ∧ Aside0 (KeepBut w w' g none) ∧ Aside0 (Below w0.heap.size w0 w'))
 case atStart => exact ⟨(0), (t569), (t570), (([] : List Bool)), (([] : List (List Int))), (.slice none 0 0), (.slice none 0 0), (by first | rfl | (simp; done) | (simp [*]; done)), H', ⟨Nat.le_refl _⟩, ⟨by first | exact Kd.R_nil _ _ _ _ _ | exact Kd.N_nil _ _ _ _ _ | exact Kd.V_nil _ _ _ _ _ | exact Kd.Q_nil _ _ _ _ _ | exact Kd.S_nil _ _ _ _ _⟩, ⟨by first | exact Kd.S_nil _ _ _ _ _ | exact Kd.N_nil _ _ _ _ _ | exact Kd.V_nil _ _ _ _ _ | exact Kd.Q_nil _ _ _ _ _ | exact Kd.R_nil _ _ _ _ _⟩, ⟨by refine rb_ ?_; refine blk_far ?_ NB567_571.out _; refine rb_ ?_; refine blk_far ?_ NB567_571.out _; refine rb_ ?_; exact BK567.out⟩, ⟨by refine rb_ ?_; refine blk_put (cs := #[.slice none 0 0, .slice none 0 0]) ?_ 1 _ rfl; refine rb_ ?_; refine blk_put (cs := #[.slice none 0 0, .slice none 0 0]) ?_ 0 _ rfl; refine rb_ ?_; exact BK571.out⟩, ⟨by exact zp31_1_ HI0.out NB0_567.out NB0_571.out⟩, ⟨by exact zp31_2_ HK.out GW567.out GW571.out⟩, ⟨by exact zp31_3_ HB.out (IsS125.ge HI0.out) GE567.out GE571.out⟩⟩
 case round =>
  clear H'
  try clear c1
  try clear p2
  try clear p6
  try clear c7
  try clear c8
  try clear hcz9_0
  try clear hcz9_1
  try clear hfz9_0
  try clear hfz9_1
  obtain ⟨x7_1, x1001_1, x1002_1, x572000_1, x572001_1, u572000, u572001, rfl, HA, HK1, HO_572000, HO_572001, BK567, BK571, HI0, HK, HB⟩ := hrel
  cases gk with
  | zero => exact absurd HA.out (by simp [spec_l5Draw.l0])
  | succ k1 =>
   have H := HA.out
   clear HA
   simp only [spec_l5Draw.l0] at H
   by_cases c10 : x7_1 < (wrap64 (1 + t568))
   ·rw [if_pos c10] at H
    have c10b0 : decide (x7_1 < (wrap64 (1 + t568))) = true := decide_eq_true c10
    clear c10
    replace H := Option.bind_eq_some_iff.mp H
    obtain ⟨⟨t572, t573, t574⟩, A110, H⟩ := H
    have A11 := am_ A110
    clear A110
    by_cases c12 : x572000_1.length < 140737488355328
    ·rw [if_pos c12] at H
     have LMc12 := am_ c12
     clear c12
     obtain ⟨y575, hy575⟩ : ∃ y_ : List Bool, y_ = (x572000_1 ++ [t572]) := ⟨_, rfl⟩
     replace H : (spec_l5Draw.l1 k1 (wrap64 (1 + t568)) x7_1 (([] : List Int)) 0 s0_0 t573 t574 y575 x572001_1) = some (r1, r2, r3, r4) := by first | (rw [hy575]; with_reducible exact H) | (have H2_ := (Option.bind_some _ _).symm.trans H; rw [hy575]; with_reducible exact H2_) | (have H2_ := (Option.bind_some _ _).symm.trans H; with_reducible exact H2_) | with_reducible exact H | (rw [hy575]; exact H) | exact H
     have Ny575 := am_ hy575
     clear hy575
     obtain ⟨y578, hy578⟩ : ∃ y_ : List Int, y_ = (([] : List Int)) := ⟨_, rfl⟩
     replace H : (spec_l5Draw.l1 k1 (wrap64 (1 + t568)) x7_1 y578 0 s0_0 t573 t574 y575 x572001_1) = some (r1, r2, r3, r4) := by first | (rw [hy578]; with_reducible exact H) | (have H2_ := (Option.bind_some _ _).symm.trans H; rw [hy578]; with_reducible exact H2_) | (have H2_ := (Option.bind_some _ _).symm.trans H; with_reducible exact H2_) | with_reducible exact H | (rw [hy578]; exact H) | exact H
     have Ny578 := am_ hy578
     clear hy578
     have H' := am_ H
     clear H
     try go_wp2
     replace HO_572000 := am_ (Kd.R_drew HO_572000.out)
     replace HO_572001 := am_ (Kd.S_drew HO_572001.out)
     replace BK567 := am_ (blk_drew BK567.out)
     replace BK571 := am_ (blk_drew BK571.out)
     replace HI0 := am_ (IsS125.drew HI0.out)
     replace HK := am_ (keep_drew HK.out)
     replace HB := am_ (below_drew1 HB.out)
     refine start_ (n := 8) (S := fun w' => w'.cell? ⟨gb571, 0, none⟩ = some (u572000) ∧ w'.cell? ⟨gb571, 1, none⟩ = some (u572001)) (ds := [7]) (bl 8 0) (by kernel_rfl) rfl rfl ⟨(blk_cell BK571.out 0).trans rfl, (blk_cell BK571.out 1).trans rfl⟩ (fun hHeld => ?_); refine with_tabW spec_l5Draw.tab6 spec_l5Draw.bits6 (fun HT_ HW_ => ?_)
     generalize wr.drew = w13 at HO_572000 HO_572001 BK567 BK571 HI0 HK HB hHeld ⊢
     refine pu_ 0 20 (bl 8 1) HT_ ?_
     refine pu_ 2 22 (bl 8 5) HT_ ?_
     refine tk_ 1 21 (bl 8 7) HT_ HW_ hHeld ?_
     refine one_ (i := 3) (N := some 23) (bl 8 15) rfl rfl (one_of HT_.out (by kernel_rfl)) (by decide) (fun K hK => ?_)
     refine gO_ Try.func87 #[.pointer (some ⟨g, 0, none⟩), .int .i64 2] ?_
     with_reducible refine (spec_l1Once.calls g s0_0 x1001_1 x1002_1 2 t572 t573 t574 w0 _ ?side1 ?side2 A11.out).mono ?_
     (case side1 => exact zp31_1_ HI0.out NB0_567.out NB0_571.out)
     (case side2 => exact zp31_3_ HB.out (IsS125.ge HI0.out) GE567.out GE571.out)
     rintro e w14 ⟨rfl, hi, hb, hk⟩
     refine ⟨_, rfl, ?_⟩
     replace HO_572000 := am_ (Kd.R_mono (Kd.R_keep (IsS125.apart (show IsS125 w0 _ g s0_0 x1001_1 x1002_1 from by exact zp31_1_ HI0.out NB0_567.out NB0_571.out) (rr_ HO_572000.out) (by decide)) hk (fun _ h => h.2)) (fun _ h => h.1))
     replace HO_572001 := am_ (Kd.S_mono (Kd.S_keep (IsS125.apartS (show IsS125 w0 _ g s0_0 x1001_1 x1002_1 from by exact zp31_1_ HI0.out NB0_567.out NB0_571.out) (rs_ HO_572001.out) (by decide)) hk (fun _ h => h.2)) (fun _ h => h.1))
     replace BK567 := am_ (KeepBut.blk hk (g' := gb567) (o := .cells #[.slice none 0 0, .slice none 0 0] 27 (0, 0)) (rb_ BK567.out) NB567_0.out (by simp))
     replace BK571 := am_ (KeepBut.blk hk (g' := gb571) (o := .cells #[u572000, u572001] 27 (0, 0)) (rb_ BK571.out) NB571_0.out (by simp))
     replace HK := am_ (KeepBut.trans (k2_ HK.out GW567.out GW571.out) hk (.inl rfl))
     replace HB := am_ (hb)
     replace HI0 := am_ (hi)
     (try clear hb)
     (try clear hb2)
     (try clear hk)
     (try clear hi)
     refine hK.out _ _ ⟨(blk_cell BK571.out 0).trans rfl, (blk_cell BK571.out 1).trans rfl⟩ (fun hHeld => ?_)
     clear hK K
     refine norm_ (a' := ?_) ?_ ?_
     rotate_left
     ·show Act.put _ (some 23) _ = _
      simp only [pn_, sz_, ss_, i64_w, i32_w]
      rfl
     refine one_ (i := 4) (N := some 24) (bl 8 31) rfl rfl (one_of HT_.out (by kernel_rfl)) (by decide) (fun K hK => ?_)
     refine value_ (w1 := ?_) (v := ?_) (by rfl) rfl ?_ ?_
     rotate_left 2
     ·go_simp
      constructor
      ·rfl
      ·rfl
     refine hK.out _ _ ⟨(blk_cell (blk_alloc BK571.out _) 0).trans rfl, (blk_cell (blk_alloc BK571.out _) 1).trans rfl⟩ (fun hHeld => ?_)
     clear hK K
     refine norm_ (a' := ?_) ?_ ?_
     rotate_left
     ·show Act.put _ (some 24) _ = _
      simp only [pn_, sz_, ss_, i64_w, i32_w]
      rfl
     refine one_ (i := 5) (N := some 25) (bl 8 63) rfl rfl (one_of HT_.out (by kernel_rfl)) (by decide) (fun K hK => ?_)
     refine Kd.R_append_step Kd.bool w.heap.size (by rfl) (.tmp 21) (.tmp 24) 22 4 (.bool false) 1 rfl Try.underlying22 info4 rfl (by decide) (by omega) u572000 x572000_1 t572 [.bool t572] (fun _ => True) (fun _ => False) rfl rfl ?aP (fun _ hk => hk.elim) ?aF ?aO (Below.refl _ _) ?aS ?aL ?_
     (case aP => exact rfl)
     (case aF => exact (fun _ _ => trivial))
     (case aO => exact (rr_ HO_572000.out))
     (case aS => exact (keep_size (w := w) (g := g) (row := none) (k2_ HK.out GW567.out GW571.out)))
     (case aL => have := LMc12.out; omega)
     intro v576 w15 ho hb hg hat
     rw [← Ny575.out] at ho
     replace HO_572001 := am_ (Kd.S_over' (rs_ HO_572001.out) (Kd.R_typed (rr_ HO_572000.out)) (by decide) hg)
     replace BK567 := am_ (blk_grown (g := gb567) (o := .cells #[.slice none 0 0, .slice none 0 0] 27 (0, 0)) (rb_ BK567.out) hg (Kd.R_ne HO_572000.out BK567.out (by decide)))
     replace BK571 := am_ (blk_grown (g := gb571) (o := .cells #[u572000, u572001] 27 (0, 0)) (rb_ BK571.out) hg (Kd.R_ne HO_572000.out BK571.out (by decide)))
     replace HB := am_ (below_weaken (b3_ HB.out (IsS125.ge HI0.out) GE567.out GE571.out) HL.out hb)
     replace HI0 := am_ (IsS125.grown (zp31_1_ HI0.out NB0_567.out NB0_571.out) hg (IsS125.own_ne HI0.out HO_572000.out (by decide)))
     replace HK := am_ (KeepBut.trans (k2_ HK.out GW567.out GW571.out) (KeepBut.of_grown hg g) (Kd.R_base2 HO_572000.out))
     replace HO577 := am_ (ho)
     clear HO_572000 ho hb hg hat
     obtain ⟨Ao16, co16, eo16⟩ := Kd.R_slice HO577.out
     (first | subst eo16 | (injection eo16 with f1_ f2_ f3_; have f4_ := f1_.symm; have f5_ := f3_.symm; clear f1_ f2_ f3_; subst f4_; subst f5_))
     refine hK.out _ _ ⟨(blk_cell BK571.out 0).trans rfl, (blk_cell BK571.out 1).trans rfl⟩ (fun hHeld => ?_)
     clear hK K
     refine norm_ (a' := ?_) ?_ ?_
     rotate_left
     ·show Act.put _ (some 25) _ = _
      simp only [pn_, sz_, ss_, i64_w, i32_w]
      rfl
     refine pu_ 6 26 (bl 8 127) HT_ ?_
     refine last_ (i := 7) (N := none) (bl 8 255) rfl rfl (one_of HT_.out (by kernel_rfl)) (by decide) (fun K hK => ?_)
     have hs17 : w15.cell? ⟨gb571, 0, none⟩ = some (u572000) := (blk_cell BK571.out 0).trans rfl
     have hfs17 := blk_frozen BK571.out 0
     have hns17_0 := NB567_571.out
     have hms17_0 := NB571_567.out
     refine skip_ (w1 := ?_) (by rfl) rfl ?_ ?_
     rotate_left
     ·go_simp
      rfl
     refine hK.out _ _ ?_
     clear hK K
     refine done_ (done_of HT_.out (by kernel_rfl)) ?_
     try go_wp2_with (first | ((with_reducible refine gate_dst (N := 27) rfl ?_); refine Kd.R_lit (Kd.int .i64) _ 3 ?hg (N := 27) ?hd (xs := ([] : List Int)) (inner := []) (ok := fun _ => True) (okp := fun _ => True) ?hr ?hp (fun _ hk => hk) trivial (Below.refl _ _) (Nat.le_refl _) (by simp) ?_; (case hd => rfl); (case hg => rfl); (case hr => first | (go_simp; done) | (go_simp; rfl)); (case hp => exact (Reps.none _ _)); intro v579 w18 ho19 hb hg_ hnew_; clear hg_ hnew_; (first | rw [← Ny578.out] at ho19 | (simp only [Int.reduceToNat] at ho19; rw [← Ny578.out] at ho19)); have n0_ := am_ (Kd.S_elder' (rs_ (Kd.S_mono (Kd.S_far (p := ⟨gb571, 0, none⟩) (Kd.S_types HO_572001.out BK571.out (by decide)) (fun _ hk => hk.2) (.slice Ao16 y575.length co16)) (fun _ h_ => h_.1))) (Kd.R_base ho19) hb); have n1_ := am_ (Kd.R_below (rr_ (Kd.R_mono (Kd.R_far (p := ⟨gb571, 0, none⟩) (Kd.R_types HO577.out BK571.out (by decide)) (fun _ hk => hk.2) (.slice Ao16 y575.length co16)) (fun _ h_ => h_.1))) hb); have n2_ := am_ (Kd.R_lower ho19 (keep_size (w := w) (g := g) (row := none) (k2_ HK.out GW567.out GW571.out))); have n3_ := am_ (blk_below (g := gb567) (o := .cells #[.slice none 0 0, .slice none 0 0] 27 (0, 0)) (by refine rb_ ?_; refine blk_far ?_ NB567_571.out _; refine rb_ ?_; exact BK567.out) hb); have n4_ := am_ (blk_below (g := gb571) (o := .cells #[.slice Ao16 y575.length co16, u572001] 27 (0, 0)) (by refine rb_ ?_; refine blk_put (cs := #[u572000, u572001]) ?_ 0 _ rfl; refine rb_ ?_; exact BK571.out) hb); have n5_ := am_ (IsS125.below (show IsS125 w0 (w15.setCell ⟨gb571, 0, none⟩ (.slice Ao16 y575.length co16)) g s0_0 t573 t574 from by exact zp31_1_ HI0.out NB0_567.out NB0_571.out) hb); have n6_ := am_ (KeepBut.trans (k2_ HK.out GW567.out GW571.out) (KeepBut.of_below hb g none) (.inl rfl)); have n7_ := am_ (below_step (b3_ HB.out (IsS125.ge HI0.out) GE567.out GE571.out) hb); clear HO_572001; clear HO577; clear BK567; clear BK571; clear HI0; clear HK; clear HB; have HO_572001 := n0_; have HO577 := n1_; have HO580 := n2_; have BK567 := n3_; have BK571 := n4_; have HI0 := n5_; have HK := n6_; have HB := n7_; clear n0_ n1_ n2_ n3_ n4_ n5_ n6_ n7_; clear hb ho19))
     go_loopg [8, 9] k1 (fun kq v8 v9 w' => ∃ (x8_2 : List Int) (x9_2 : Int) (x1001_2 : Int) (x1002_2 : Int), v9 = .int .i64 x9_2 ∧ Aside0 (spec_l5Draw.l1 kq (wrap64 (1 + t568)) x7_1 x8_2 x9_2 s0_0 x1001_2 x1002_2 y575 x572001_1 = some (r1, r2, r3, r4)) ∧ Aside0 (kq ≤ k1) ∧ Aside0 (Kd.R (Kd.int .i64) 3 w' w.heap.size (fun _ => True) v8 x8_2) ∧ Aside0 (Kd.R Kd.bool 4 w' w.heap.size (fun _ => True) (.slice Ao16 y575.length co16) y575) ∧ Aside0 (Kd.S (Kd.slice 3 (Kd.int .i64)) 67 w' w.heap.size (fun k_ => some k_ ≠ (v8 : Value).ownBlock) u572001 x572001_1) ∧ Aside0 (w'.heap[gb567]? = some (.cells #[(.slice none 0 0), (.slice none 0 0)] 27 (0, 0))) ∧ Aside0 (w'.heap[gb571]? = some (.cells #[(.slice Ao16 y575.length co16), u572001] 27 (0, 0))) ∧ Aside0 (IsS125 w0 w' g s0_0 x1001_2 x1002_2) ∧ Aside0 (KeepBut w w' g none) ∧ Aside0 (Below w0.heap.size w0 w'))
     case atStart => exact ⟨(y578), (0), (t573), (t574), (by first | rfl | (simp; done) | (simp [*]; done)), H', ⟨Nat.le_refl _⟩, ⟨by refine rr_ ?_; exact HO580.out⟩, ⟨by refine rr_ ?_; exact HO577.out⟩, ⟨by refine rs_ ?_; exact Kd.S_mono HO_572001.out (fun _ hk => hk.2)⟩, ⟨by refine rb_ ?_; exact BK567.out⟩, ⟨by refine rb_ ?_; exact BK571.out⟩, ⟨by exact zp31_1_ HI0.out NB0_567.out NB0_571.out⟩, ⟨by exact zp31_2_ HK.out GW567.out GW571.out⟩, ⟨by exact zp31_3_ HB.out (IsS125.ge HI0.out) GE567.out GE571.out⟩⟩
     case round =>
      clear H'
      try clear c1
      try clear p2
      try clear p6
      try clear c7
      try clear c8
      try clear c10
      try clear c10b0
      try clear c12
      try clear hcz9_0
      try clear hcz9_1
      try clear hfz9_0
      try clear hfz9_1
      try clear p2
      try clear p6
      obtain ⟨x8_2, x9_2, x1001_2, x1002_2, rfl, HA, HK2, HO_8, HO_572000, HO_572001, BK567, BK571, HI0, HK, HB⟩ := hrel
      cases gk with
      | zero => exact absurd HA.out (by simp [spec_l5Draw.l1])
      | succ k2 =>
       have H := HA.out
       clear HA
       simp only [spec_l5Draw.l1] at H
       by_cases c20 : x9_2 < 3
       ·rw [if_pos c20] at H
        have c20b0 : decide (x9_2 < 3) = true := decide_eq_true c20
        clear c20
        replace H := Option.bind_eq_some_iff.mp H
        obtain ⟨⟨t581, t582, t583⟩, A210, H⟩ := H
        have A21 := am_ A210
        clear A210
        by_cases c22 : x8_2.length < 17592186044416
        ·rw [if_pos c22] at H
         have LMc22 := am_ c22
         clear c22
         obtain ⟨y584, hy584⟩ : ∃ y_ : List Int, y_ = (x8_2 ++ [t581]) := ⟨_, rfl⟩
         replace H : (spec_l5Draw.l1 k2 (wrap64 (1 + t568)) x7_1 y584 (wrap64 (x9_2 + 1)) s0_0 t582 t583 y575 x572001_1) = some (r1, r2, r3, r4) := by first | (rw [hy584]; with_reducible exact H) | (have H2_ := (Option.bind_some _ _).symm.trans H; rw [hy584]; with_reducible exact H2_) | (have H2_ := (Option.bind_some _ _).symm.trans H; with_reducible exact H2_) | with_reducible exact H | (rw [hy584]; exact H) | exact H
         have Ny584 := am_ hy584
         clear hy584
         have H' := am_ H
         clear H
         go_wp2_with (first | ((with_reducible refine gate_callee (f := 107) rfl ?_); refine gL_ (some 35) Try.func107 #[.pointer (some ⟨g, 0, none⟩), .int .i64 (wrap64 (1 + t568))] ?_; (with_reducible refine (spec_l1Below.calls g s0_0 x1001_2 x1002_2 (wrap64 (1 + t568)) t581 t582 t583 w0 _ ?side1 ?side2 A21.out).mono ?_); (case side1 => exact zp31_1_ HI0.out NB0_567.out NB0_571.out); (case side2 => exact zp31_3_ HB.out (IsS125.ge HI0.out) GE567.out GE571.out); rintro e w23 ⟨rfl, hi, hb, hk⟩; refine ⟨_, rfl, ?_⟩; have n0_ := am_ (Kd.R_mono (Kd.R_keep (IsS125.apart (show IsS125 w0 _ g s0_0 x1001_2 x1002_2 from by exact zp31_1_ HI0.out NB0_567.out NB0_571.out) (rr_ HO_8.out) (by decide)) hk (fun _ h => h.2)) (fun _ h => h.1)); have n1_ := am_ (Kd.R_mono (Kd.R_keep (IsS125.apart (show IsS125 w0 _ g s0_0 x1001_2 x1002_2 from by exact zp31_1_ HI0.out NB0_567.out NB0_571.out) (rr_ HO_572000.out) (by decide)) hk (fun _ h => h.2)) (fun _ h => h.1)); have n2_ := am_ (Kd.S_mono (Kd.S_keep (IsS125.apartS (show IsS125 w0 _ g s0_0 x1001_2 x1002_2 from by exact zp31_1_ HI0.out NB0_567.out NB0_571.out) (rs_ HO_572001.out) (by decide)) hk (fun _ h => h.2)) (fun _ h => h.1)); have n3_ := am_ (KeepBut.blk hk (g' := gb567) (o := .cells #[.slice none 0 0, .slice none 0 0] 27 (0, 0)) (rb_ BK567.out) NB567_0.out (by simp)); have n4_ := am_ (KeepBut.blk hk (g' := gb571) (o := .cells #[.slice Ao16 y575.length co16, u572001] 27 (0, 0)) (rb_ BK571.out) NB571_0.out (by simp)); have n5_ := am_ (KeepBut.trans (k2_ HK.out GW567.out GW571.out) hk (.inl rfl)); have n6_ := am_ (hb); have n7_ := am_ (hi); clear HO_8; clear HO_572000; clear HO_572001; clear BK567; clear BK571; clear HK; clear HB; clear HI0; have HO_8 := n0_; have HO_572000 := n1_; have HO_572001 := n2_; have BK567 := n3_; have BK571 := n4_; have HK := n5_; have HB := n6_; have HI0 := n7_; clear n0_ n1_ n2_ n3_ n4_ n5_ n6_ n7_; (try clear hb); (try clear hb2); (try clear hk); (try clear hi)) | ((with_reducible refine gate_builtin (b := .append) (xs := #[.tmp 32, .tmp 36]) rfl ?_); at_builtin; refine Kd.R_append (Kd.int .i64) w.heap.size rfl (.tmp 32) (.tmp 36) 67 3 (.int .i64 0) 8 rfl Try.underlying67 info3 rfl (by decide) (by omega) u8 x8_2 t581 [.int .i64 t581] (fun _ => True) (fun _ => False) rfl rfl ?aP (fun _ hk => hk.elim) ?aF ?aO (Below.refl _ _) ?aS ?aL ?_; (case aP => exact rfl); (case aF => exact (fun _ _ => trivial)); (case aO => exact (rr_ HO_8.out)); (case aS => exact (keep_size (w := w) (g := g) (row := none) (k2_ HK.out GW567.out GW571.out))); (case aL => have := LMc22.out; omega); intro v585 w24 ho hb hg hat; rw [← Ny584.out] at ho; have n0_ := am_ (Kd.R_over' (rr_ HO_572000.out) (Kd.R_typed (rr_ HO_8.out)) (by decide) hg); have n1_ := am_ (Kd.S_after (ok := (fun _ => True)) (by refine rs_ ?_; exact Kd.S_mono HO_572001.out (fun _ hk => ⟨trivial, hk⟩)) hg hat); have n2_ := am_ (blk_grown (g := gb567) (o := .cells #[.slice none 0 0, .slice none 0 0] 27 (0, 0)) (rb_ BK567.out) hg (Kd.R_ne HO_8.out BK567.out (by decide))); have n3_ := am_ (blk_grown (g := gb571) (o := .cells #[.slice Ao16 y575.length co16, u572001] 27 (0, 0)) (rb_ BK571.out) hg (Kd.R_ne HO_8.out BK571.out (by decide))); have n4_ := am_ (IsS125.grown (zp31_1_ HI0.out NB0_567.out NB0_571.out) hg (IsS125.own_ne HI0.out HO_8.out (by decide))); have n5_ := am_ (below_weaken (b3_ HB.out (IsS125.ge HI0.out) GE567.out GE571.out) HL.out hb); have n6_ := am_ (KeepBut.trans (k2_ HK.out GW567.out GW571.out) (KeepBut.of_grown hg g) (Kd.R_base2 HO_8.out)); have n7_ := am_ (ho); clear HO_572000; clear HO_572001; clear BK567; clear BK571; clear HI0; clear HB; clear HK; clear HO_8; have HO_572000 := n0_; have HO_572001 := n1_; have BK567 := n2_; have BK571 := n3_; have HI0 := n4_; have HB := n5_; have HK := n6_; have HO586 := n7_; clear n0_ n1_ n2_ n3_ n4_ n5_ n6_ n7_; clear ho hb hg hat))
         go_roundg k2
         case measure => have := HK1.out; have := HK2.out; omega
         case rel => exact ⟨(y584), (wrap64 (x9_2 + 1)), (t582), (t583), (by first | rfl | (simp; done) | (simp [*]; done)), H', ⟨by have := HK1.out; have := HK2.out; omega⟩, ⟨by refine rr_ ?_; exact HO586.out⟩, ⟨by refine rr_ ?_; exact HO_572000.out⟩, ⟨by refine rs_ ?_; exact Kd.S_mono HO_572001.out (fun _ hk => hk.2)⟩, ⟨by refine rb_ ?_; exact BK567.out⟩, ⟨by refine rb_ ?_; exact BK571.out⟩, ⟨by exact zp31_1_ HI0.out NB0_567.out NB0_571.out⟩, ⟨by exact zp31_2_ HK.out GW567.out GW571.out⟩, ⟨by exact zp31_3_ HB.out (IsS125.ge HI0.out) GE567.out GE571.out⟩⟩
        ·rw [if_neg c22] at H
         exact absurd H (by simp)
       ·rw [if_neg c20] at H
        have c20b0 : decide (x9_2 < 3) = false := decide_eq_false c20
        clear c20
        by_cases c25 : x572001_1.length < 5864062014805
        ·rw [if_pos c25] at H
         have LMc25 := am_ c25
         clear c25
         obtain ⟨y587, hy587⟩ : ∃ y_ : List (List Int), y_ = (x572001_1 ++ [x8_2]) := ⟨_, rfl⟩
         replace H : (spec_l5Draw.l0 k2 (wrap64 (1 + t568)) (wrap64 (x7_1 + 1)) s0_0 x1001_2 x1002_2 y575 y587) = some (r1, r2, r3, r4) := by first | (rw [hy587]; with_reducible exact H) | (have H2_ := (Option.bind_some _ _).symm.trans H; rw [hy587]; with_reducible exact H2_) | (have H2_ := (Option.bind_some _ _).symm.trans H; with_reducible exact H2_) | with_reducible exact H | (rw [hy587]; exact H) | exact H
         have Ny587 := am_ hy587
         clear hy587
         have H' := am_ H
         clear H
         have hnb26 := NB571_567.out
         have hnc26 := NB567_571.out
         have hnb27 := NB571_0.out
         have hnc27 := NB0_571.out
         have hcz28_0 : wr.cell? ⟨gb571, 0, none⟩ = some (.slice Ao16 y575.length co16) := (blk_cell BK571.out 0).trans rfl
         have hcz28_1 : wr.cell? ⟨gb571, 1, none⟩ = some (u572001) := (blk_cell BK571.out 1).trans rfl
         have hfz28_0 := blk_frozen BK571.out 0
         have hfz28_1 := blk_frozen BK571.out 1
         obtain ⟨Ao30, co30, eo30⟩ := Kd.R_slice HO_8.out
         subst eo30
         go_wp2_with (first | ((with_reducible refine gate_builtin (b := .append) (xs := #[.tmp 39, .tmp 41]) rfl ?_); at_builtin; refine Kd.S_append (Kd.slice 3 (Kd.int .i64)) w.heap.size rfl (.tmp 39) (.tmp 41) 23 67 (.slice none 0 0) 24 rfl Try.underlying23 info67 rfl (by decide) (by omega) u572001 x572001_1 x8_2 [.slice Ao30 x8_2.length co30] (fun _ => True) (fun k_ => some k_ = (.slice Ao30 x8_2.length co30 : Value).ownBlock) rfl rfl ?aP (fun k_ hk_ => ((Kd.R_mono (ok' := fun k_ => ((fun _ => True)) k_ ∧ some k_ ≠ (u572001 : Value).ownBlock) (Kd.R_apart' (HO_8.out) (Kd.S_typed HO_572001.out) (by decide)) (fun k_ hk => ⟨trivial, hk.2⟩))).1 k_ hk_.symm) ?aF ?aO (Below.refl _ _) ?aS ?aL ?_; (case aP => exact Kd.M_row (Kd.R_mono (Kd.R_tight rfl (Kd.R_mono (ok' := fun k_ => ((fun _ => True)) k_ ∧ some k_ ≠ (u572001 : Value).ownBlock) (Kd.R_apart' (HO_8.out) (Kd.S_typed HO_572001.out) (by decide)) (fun k_ hk => ⟨trivial, hk.2⟩))) (fun _ h_ => h_))); (case aF => exact (fun _ _ => trivial)); (case aO => exact (by refine rs_ ?_; exact Kd.S_mono HO_572001.out (fun k_ hk => ⟨trivial, fun e_ => hk e_⟩))); (case aS => exact (keep_size (w := w) (g := g) (row := none) (k2_ HK.out GW567.out GW571.out))); (case aL => have := LMc25.out; omega); intro v588 w29 ho hb hg hat; rw [← Ny587.out] at ho; have n0_ := am_ (Kd.R_over' (rr_ HO_572000.out) (Kd.S_typed (rs_ HO_572001.out)) (by decide) hg); have n1_ := am_ (blk_grown (g := gb567) (o := .cells #[.slice none 0 0, .slice none 0 0] 27 (0, 0)) (rb_ BK567.out) hg (Kd.S_ne HO_572001.out BK567.out (by decide))); have n2_ := am_ (blk_grown (g := gb571) (o := .cells #[.slice Ao16 y575.length co16, u572001] 27 (0, 0)) (rb_ BK571.out) hg (Kd.S_ne HO_572001.out BK571.out (by decide))); have n3_ := am_ (IsS125.grown (zp31_1_ HI0.out NB0_567.out NB0_571.out) hg (IsS125.own_neS HI0.out HO_572001.out (by decide))); have n4_ := am_ (below_weaken (b3_ HB.out (IsS125.ge HI0.out) GE567.out GE571.out) HL.out hb); have n5_ := am_ (KeepBut.trans (k2_ HK.out GW567.out GW571.out) (KeepBut.of_grown hg g) (Kd.S_base2 HO_572001.out)); have n6_ := am_ (ho); clear HO_572000; clear BK567; clear BK571; clear HI0; clear HB; clear HK; clear HO_572001; clear HO_8; have HO_572000 := n0_; have BK567 := n1_; have BK571 := n2_; have HI0 := n3_; have HB := n4_; have HK := n5_; have HO589 := n6_; clear n0_ n1_ n2_ n3_ n4_ n5_ n6_; clear ho hb hg hat; obtain ⟨Ao31, co31, eo31⟩ := Kd.S_slice HO589.out; subst eo31; have hcz32_0 : w29.cell? ⟨gb571, 0, none⟩ = some (.slice Ao16 y575.length co16) := (blk_cell BK571.out 0).trans rfl; have hcz32_1 : w29.cell? ⟨gb571, 1, none⟩ = some (u572001) := (blk_cell BK571.out 1).trans rfl; have hfz32_0 := blk_frozen BK571.out 0; have hfz32_1 := blk_frozen BK571.out 1))
         go_roundg k2
         case measure => have := HK1.out; have := HK2.out; omega
         case rel => exact ⟨(wrap64 (x7_1 + 1)), (x1001_2), (x1002_2), (y575), (y587), (.slice Ao16 y575.length co16), (.slice Ao31 y587.length co31), (by first | rfl | (simp; done) | (simp [*]; done)), H', ⟨by have := HK1.out; have := HK2.out; omega⟩, ⟨by refine rr_ ?_; exact Kd.R_mono (Kd.R_far (p := ⟨gb571, 1, none⟩) (Kd.R_types HO_572000.out BK571.out (by decide)) (fun _ hk => hk.2) (.slice Ao31 y587.length co31)) (fun _ hk => trivial)⟩, ⟨by refine rs_ ?_; exact Kd.S_mono (Kd.S_far (p := ⟨gb571, 1, none⟩) (Kd.S_types HO589.out BK571.out (by decide)) (fun _ hk => hk.2) (.slice Ao31 y587.length co31)) (fun _ hk => trivial)⟩, ⟨by refine rb_ ?_; refine blk_far ?_ NB567_571.out _; refine rb_ ?_; exact BK567.out⟩, ⟨by refine rb_ ?_; refine blk_put (cs := #[.slice Ao16 y575.length co16, u572001]) ?_ 1 _ rfl; refine rb_ ?_; exact BK571.out⟩, ⟨by exact zp31_1_ HI0.out NB0_567.out NB0_571.out⟩, ⟨by exact zp31_2_ HK.out GW567.out GW571.out⟩, ⟨by exact zp31_3_ HB.out (IsS125.ge HI0.out) GE567.out GE571.out⟩⟩
        ·rw [if_neg c25] at H
         exact absurd H (by simp)
    ·rw [if_neg c12] at H
     exact absurd H (by simp)
   ·rw [if_neg c10] at H
    have c10b0 : decide (x7_1 < (wrap64 (1 + t568))) = false := decide_eq_false c10
    clear c10
    simp only [Option.some.injEq, Prod.mk.injEq] at H
    obtain ⟨rfl, rfl, rfl, rfl⟩ := H
    have hnb33 := NB571_567.out
    have hnc33 := NB567_571.out
    have hnb34 := NB571_0.out
    have hnc34 := NB0_571.out
    have hcz35_0 : wr.cell? ⟨gb571, 0, none⟩ = some (u572000) := (blk_cell BK571.out 0).trans rfl
    have hcz35_1 : wr.cell? ⟨gb571, 1, none⟩ = some (u572001) := (blk_cell BK571.out 1).trans rfl
    have hfz35_0 := blk_frozen BK571.out 0
    have hfz35_1 := blk_frozen BK571.out 1
    obtain ⟨Ao36, co36, eo36⟩ := Kd.R_slice HO_572000.out
    subst eo36
    have hnb37 := NB567_0.out
    have hnc37 := NB0_567.out
    have hcz38_0 : wr.cell? ⟨gb567, 0, none⟩ = some (.slice none 0 0) := (blk_cell BK567.out 0).trans rfl
    have hcz38_1 : wr.cell? ⟨gb567, 1, none⟩ = some (.slice none 0 0) := (blk_cell BK567.out 1).trans rfl
    have hfz38_0 := blk_frozen BK567.out 0
    have hfz38_1 := blk_frozen BK567.out 1
    obtain ⟨Ao39, co39, eo39⟩ := Kd.S_slice HO_572001.out
    subst eo39
    go_wp2
    refine bodyPost_ret (results_cell_row rfl _ _ gb567 27 #[.slice Ao36 x572000_1.length co36, .slice Ao39 x572001_1.length co39] (0, 0) _ rfl (by refine rb_ ?_; refine blk_put (cs := #[.slice Ao36 x572000_1.length co36, .slice none 0 0]) ?_ 1 _ rfl; refine rb_ ?_; refine blk_put (cs := #[.slice none 0 0, .slice none 0 0]) ?_ 0 _ rfl; refine rb_ ?_; exact BK567.out) Try.underlying27 rfl (by kernel_rfl)) rfl ?_
    exact ⟨_, _, by first | rfl | (simp [errW_none, errW_some] <;> rfl) | (simp [*, errW_none, errW_some] <;> rfl), by refine rr_ ?_; exact Kd.R_mono (Kd.R_far (p := ⟨gb567, 1, none⟩) (Kd.R_far (p := ⟨gb567, 0, none⟩) (Kd.R_types HO_572000.out BK567.out (by decide)) (fun _ hk => hk.2) (.slice Ao36 x572000_1.length co36)) (fun _ hk => hk.2) (.slice Ao39 x572001_1.length co39)) (fun _ hk => trivial), by refine rs_ ?_; exact Kd.S_mono (Kd.S_far (p := ⟨gb567, 1, none⟩) (Kd.S_far (p := ⟨gb567, 0, none⟩) (Kd.S_types HO_572001.out BK567.out (by decide)) (fun _ hk => hk.2) (.slice Ao36 x572000_1.length co36)) (fun _ hk => hk.2) (.slice Ao39 x572001_1.length co39)) (fun _ hk => trivial), by exact zp31_1_ HI0.out NB0_567.out NB0_571.out, by exact zp31_3_ HB.out (IsS125.ge HI0.out) GE567.out GE571.out, by exact zp31_2_ HK.out GW567.out GW571.out⟩
end Go.Proofs.Ytogamkblkoobkaa.P
end
