/- Texts of the proof of FnExactMatchRegex, put together. No condition. -/
import Derived.Shelf.Abstract
import Derived.Lib.Walk
import Derived.Test.YtldgkgdgcfllmaaQFnExactMatchRegex5
section
namespace Go.Proofs.Ytldgkgdgcfllmaa.Rg
open Go.RowKit Go.Shelf Go.Proofs.Ytldgkgdgcfllmaa.P Go.Proofs.Ytldgkgdgcfllmaa.Pl Go.Proofs.YtldgkgdgcfllmaaW.PrintWords Go.Proofs.YtldgkgdgcfllmaaW.PrintLast Go.Proofs.YtldgkgdgcfllmaaW.PrintMore
set_option linter.unusedVariables false
set_option linter.unusedSimpArgs false
theorem upd_self {V : Nat → Nat → Nat → Int} {n i j : Nat} {x : Int} : upd V n i j x n i j = x := by unfold upd; rw [if_pos ⟨rfl, rfl, rfl⟩]
theorem upd_other {V : Nat → Nat → Nat → Int} {n i j n' i' j' : Nat} {x : Int} (h : ¬ (n' = n ∧ i' = i ∧ j' = j)) : upd V n i j x n' i' j' = V n' i' j' := by unfold upd; rw [if_neg h]
theorem Inv.put {E : Nat → Nat → Nat → Bool} {V V' : Nat → Nat → Nat → Int} {n i j : Nat} {r : Bool} (h : Inv E V V' n) (hr : E n i j = r) : Inv E V (upd V' n i j (bit2 r)) (n + 1) := fun n' i' j' => by
  by_cases e : n' = n ∧ i' = i ∧ j' = j
  · obtain ⟨rfl, rfl, rfl⟩ := e
    rw [upd_self, hr]
    exact Or.inr ⟨by omega, rfl⟩
  · rw [upd_other e]
    rcases h n' i' j' with e | ⟨a, e⟩
    · exact Or.inl e
    · exact Or.inr ⟨by omega, e⟩
theorem bit_t : spec_l1Bit.f true = some 1 := by unfold spec_l1Bit.f; simp
theorem bit_f : spec_l1Bit.f false = some 0 := by unfold spec_l1Bit.f; simp
theorem w64_2 : wrap64 2 = bit2 false := by show wrap64 2 = 2; unfold wrap64; omega
theorem w64_1 : wrap64 1 = bit2 true := by show wrap64 1 = 1; unfold wrap64; omega
def Tsi4 : Bool × List (List Nat × List Nat) := (true, [([], []), ([0], [0]), ([1], [1]), ([2], [2]), ([], []), ([3, 4], [3, 4]), ([5], [5]), ([], []), ([6, 7], [6, 7]), ([8], [8]), ([], []), ([], []), ([], []), ([], []), ([], []), ([11, 12, 13, 14], [11, 12, 13, 14]), ([15, 15], [15]), ([16], [16]), ([9, 10, 0, 1, 2, 3, 4, 5, 6, 7, 8, 9, 10, 11, 12, 13, 14, 15, 16, 17], [9, 10]), ([18, 17, 16, 0, 1, 2, 3, 4, 5, 6, 7, 8, 9, 10, 11, 12, 13, 14, 15, 16, 17], [17, 18])])
def Bsi4 : List Nat := [0, 1, 3, 7, 0, 31, 63, 0, 255, 511, 0, 0, 0, 0, 0, 30720, 63488, 129024, 262143, 524287]
theorem tabsi4 : rtab .any (opsOf Try.f77 4) = Tsi4 := by kernel_rfl
theorem bitssi4 : waitsOk Tsi4.2 Bsi4 = true := by kernel_rfl
set_option maxHeartbeats 4000000 in
set_option maxRecDepth 100000 in
theorem isNew (w0 w1 W : World) (gz : Nat) (s : ByteArray) (N : Nat) (X : List Rx) (C : List (List Int)) (b : Nat → Nat → Nat) (an aa am : Addr) (E : Nat → Nat → Nat → Bool) (V : Nat → Nat → Nat → Int) (lay : Lay w1 gz s N X C b an aa am) (n i j : Nat) (x : Rx) (hx : X[n]? = some x) (hk : kindOf x ≠ 8) (hi : i < N) (hj : j < N) (hN : N ≤ 1000) (hT : X.length ≤ 1000) (hok : OkV E V n) (hm : Ms w0 w1 W X.length N b V) (hv : V n i j = 0)
    (hf : ∀ W2, Ms w0 w1 W2 X.length N b V → FindAt w0 w1 W2 gz X.length N b E V n i j (E n i j)) :
    Calls Try.prog 77 #[.pointer (some ⟨gz, 0, none⟩), .int .i64 n, .int .i64 i, .int .i64 j] W (PostS w0 w1 X.length N b E V (n + 1) (E n i j)) := by
  have hn : n < X.length := (List.getElem?_eq_some_iff.mp hx).1
  have HF := Aside0.mk hf
  have HM := Aside0.mk (hm.below (below_drew1 (Below.refl _ _)))
  obtain ⟨c1, z1⟩ := lay.z1
  obtain ⟨c3, z3⟩ := lay.z3
  obtain ⟨at_, ca, m1, m2⟩ := lay.mr n hn
  have HI : Aside0 (∀ n' i' n'' i'', n' < X.length → i' < N → n'' < X.length → i'' < N → b n' i' = b n'' i'' → n' = n'' ∧ i' = i'') := ⟨lay.inj⟩
  have HB : Aside0 (n < X.length ∧ i < N ∧ j < N) := ⟨hn, hi, hj⟩
  have HZ := Aside0.mk z3
  have HM1 := Aside0.mk m1
  have HM2 := Aside0.mk (m2 i hi)
  have k0 := hm.get z3
  have k1 := hm.get m1
  have k2 := hm.get (m2 i hi)
  have k3 := hm.cell hn hi hj
  rw [hv] at k3
  have k4 := hm.get z1
  have k5 := hm.get (lay.nk n x hx)
  have p1 : ((0 : Int) ≤ (n : Int)) = True := eq_true (by omega)
  have q1 : ((n : Int) < (X.length : Int)) = True := eq_true (by omega)
  have q1n : (n < X.length) = True := eq_true (by omega)
  have p2 : ((0 : Int) ≤ (i : Int)) = True := eq_true (by omega)
  have q2 : ((i : Int) < (N : Int)) = True := eq_true (by omega)
  have q2n : (i < N) = True := eq_true (by omega)
  have p3 : ((0 : Int) ≤ (j : Int)) = True := eq_true (by omega)
  have q3 : ((j : Int) < (N : Int)) = True := eq_true (by omega)
  have q3n : (j < N) = True := eq_true (by omega)
  have r1 : (kindOf x = 8) = False := eq_false hk
  have r2 : (kindOf x == 8) = false := beq_eq_false_iff_ne.mpr hk
  have r3 : decide (kindOf x = 8) = false := decide_eq_false hk
  clear hv z1 z3 m1 m2 lay hm hx hf hok hn hi hj hk
  generalize kindOf x = kx at k5 r1 r2 r3
  obtain ⟨res, hres⟩ : ∃ r, r = E n i j := ⟨_, rfl⟩
  have HE := Aside0.mk hres.symm
  rw [← hres] at HF ⊢
  clear hres
  cases res
  · go_enter Try.func77, Try.ntmps77
    go_wp2
    refine start_ (n := 20) (S := (fun w' => w'.cell? ⟨gz, 3, none⟩ = some (.slice (some am) X.length c3) ∧ w'.cell? (am.add n) = some (.slice (some at_) N ca) ∧ w'.cell? (at_.add i) = some (.slice (some ⟨b n i, 0, none⟩) N N))) (ds := [19]) #[false, false, false, false, false, false, false, false, false, false, false, false, false, false, false, false, false, false, false, false] (by kernel_rfl) rfl rfl (⟨k0, k1, k2⟩) (fun hHeld => ?_); refine with_tabW tabsi4 bitssi4 (fun HT_ HW_ => ?_)
    clear k0 k1 k2 k3 k4 k5
    generalize World.drew W = Wd at HM hHeld ⊢
    refine pure_ (i := 0) (N := some 52) (v := ?_) (a' := ?_) #[true, false, false, false, false, false, false, false, false, false, false, false, false, false, false, false, false, false, false, false] rfl rfl (any_of HT_.out (by kernel_rfl)) (fun _ _ _ h => h) (Or.inl ⟨by rfl, ?_⟩) ?_ ?_
    rotate_left
    · intro w'
      go_simp
      with_reducible rfl
    rotate_left
    · simp only [Act.put, List.setIfInBounds_toArray, List.set_cons_zero, List.set_cons_succ, i64_w, i32_w]
      rfl
    refine pure_ (i := 1) (N := some 53) (v := ?_) (a' := ?_) #[true, true, false, false, false, false, false, false, false, false, false, false, false, false, false, false, false, false, false, false] rfl rfl (any_of HT_.out (by kernel_rfl)) (fun _ _ _ h => h) (Or.inl ⟨by rfl, ?_⟩) ?_ ?_
    rotate_left
    · intro w'
      go_simp
      with_reducible rfl
    rotate_left
    · simp only [Act.put, List.setIfInBounds_toArray, List.set_cons_zero, List.set_cons_succ, i64_w, i32_w]
      rfl
    refine pure_ (i := 2) (N := some 54) (v := ?_) (a' := ?_) #[true, true, true, false, false, false, false, false, false, false, false, false, false, false, false, false, false, false, false, false] rfl rfl (any_of HT_.out (by kernel_rfl)) (fun _ _ _ h => h) (Or.inl ⟨by rfl, ?_⟩) ?_ ?_
    rotate_left
    · intro w'
      go_simp
      with_reducible rfl
    rotate_left
    · simp only [Act.put, List.setIfInBounds_toArray, List.set_cons_zero, List.set_cons_succ, i64_w, i32_w]
      rfl
    refine pure_ (i := 4) (N := some 56) (v := ?_) (a' := ?_) #[true, true, true, false, true, false, false, false, false, false, false, false, false, false, false, false, false, false, false, false] rfl rfl (any_of HT_.out (by kernel_rfl)) (fun _ _ _ h => h) (Or.inl ⟨by rfl, ?_⟩) ?_ ?_
    rotate_left
    · intro w'
      go_simp
      with_reducible rfl
    rotate_left
    · simp only [Act.put, List.setIfInBounds_toArray, List.set_cons_zero, List.set_cons_succ, i64_w, i32_w]
      rfl
    refine pure_ (i := 7) (N := some 59) (v := ?_) (a' := ?_) #[true, true, true, false, true, false, false, true, false, false, false, false, false, false, false, false, false, false, false, false] rfl rfl (any_of HT_.out (by kernel_rfl)) (fun _ _ _ h => h) (Or.inl ⟨by rfl, ?_⟩) ?_ ?_
    rotate_left
    · intro w'
      go_simp
      with_reducible rfl
    rotate_left
    · simp only [Act.put, List.setIfInBounds_toArray, List.set_cons_zero, List.set_cons_succ, i64_w, i32_w]
      rfl
    refine pure_ (i := 10) (N := some 62) (v := ?_) (a' := ?_) #[true, true, true, false, true, false, false, true, false, false, true, false, false, false, false, false, false, false, false, false] rfl rfl (any_of HT_.out (by kernel_rfl)) (fun _ _ _ h => h) (Or.inl ⟨by rfl, ?_⟩) ?_ ?_
    rotate_left
    · intro w'
      go_simp
      with_reducible rfl
    rotate_left
    · simp only [Act.put, List.setIfInBounds_toArray, List.set_cons_zero, List.set_cons_succ, i64_w, i32_w]
      rfl
    refine pure_ (i := 11) (N := some 63) (v := ?_) (a' := ?_) #[true, true, true, false, true, false, false, true, false, false, true, true, false, false, false, false, false, false, false, false] rfl rfl (any_of HT_.out (by kernel_rfl)) (fun _ _ _ h => h) (Or.inl ⟨by rfl, ?_⟩) ?_ ?_
    rotate_left
    · intro w'
      go_simp
      with_reducible rfl
    rotate_left
    · simp only [Act.put, List.setIfInBounds_toArray, List.set_cons_zero, List.set_cons_succ, i64_w, i32_w]
      rfl
    refine pure_ (i := 12) (N := some 64) (v := ?_) (a' := ?_) #[true, true, true, false, true, false, false, true, false, false, true, true, true, false, false, false, false, false, false, false] rfl rfl (any_of HT_.out (by kernel_rfl)) (fun _ _ _ h => h) (Or.inl ⟨by rfl, ?_⟩) ?_ ?_
    rotate_left
    · intro w'
      go_simp
      with_reducible rfl
    rotate_left
    · simp only [Act.put, List.setIfInBounds_toArray, List.set_cons_zero, List.set_cons_succ, i64_w, i32_w]
      rfl
    refine pure_ (i := 13) (N := some 65) (v := ?_) (a' := ?_) #[true, true, true, false, true, false, false, true, false, false, true, true, true, true, false, false, false, false, false, false] rfl rfl (any_of HT_.out (by kernel_rfl)) (fun _ _ _ h => h) (Or.inl ⟨by rfl, ?_⟩) ?_ ?_
    rotate_left
    · intro w'
      go_simp
      with_reducible rfl
    rotate_left
    · simp only [Act.put, List.setIfInBounds_toArray, List.set_cons_zero, List.set_cons_succ, i64_w, i32_w]
      rfl
    refine pure_ (i := 14) (N := some 66) (v := ?_) (a' := ?_) #[true, true, true, false, true, false, false, true, false, false, true, true, true, true, true, false, false, false, false, false] rfl rfl (any_of HT_.out (by kernel_rfl)) (fun _ _ _ h => h) (Or.inl ⟨by rfl, ?_⟩) ?_ ?_
    rotate_left
    · intro w'
      go_simp
      with_reducible rfl
    rotate_left
    · simp only [Act.put, List.setIfInBounds_toArray, List.set_cons_zero, List.set_cons_succ, i64_w, i32_w]
      rfl
    refine take_ (i := 3) (N := some 55) (v := ?_) (a' := ?_) #[true, true, true, true, true, false, false, true, false, false, true, true, true, true, true, false, false, false, false, false] rfl rfl (take_ofW HT_.out HW_.out (by kernel_rfl)) (fun _ _ _ h => h) (Or.inl ⟨by rfl, ?_⟩) hHeld ?_ ?_
    rotate_left
    · rintro w' ⟨t0, t1, t2⟩
      go_simp
      with_reducible rfl
    rotate_left
    · simp only [Act.put, List.setIfInBounds_toArray, List.set_cons_zero, List.set_cons_succ, i64_w, i32_w]
      rfl
    refine pure_ (i := 5) (N := some 57) (v := ?_) (a' := ?_) #[true, true, true, true, true, true, false, true, false, false, true, true, true, true, true, false, false, false, false, false] rfl rfl (any_of HT_.out (by kernel_rfl)) (fun _ _ _ h => h) (Or.inl ⟨by rfl, ?_⟩) ?_ ?_
    rotate_left
    · intro w'
      go_simp
      with_reducible rfl
    rotate_left
    · simp only [Act.put, List.setIfInBounds_toArray, List.set_cons_zero, List.set_cons_succ, i64_w, i32_w]
      rfl
    refine take_ (i := 6) (N := some 58) (v := ?_) (a' := ?_) #[true, true, true, true, true, true, true, true, false, false, true, true, true, true, true, false, false, false, false, false] rfl rfl (take_ofW HT_.out HW_.out (by kernel_rfl)) (fun _ _ _ h => h) (Or.inl ⟨by rfl, ?_⟩) hHeld ?_ ?_
    rotate_left
    · rintro w' ⟨t0, t1, t2⟩
      go_simp
      with_reducible rfl
    rotate_left
    · simp only [Act.put, List.setIfInBounds_toArray, List.set_cons_zero, List.set_cons_succ, i64_w, i32_w]
      rfl
    refine pure_ (i := 8) (N := some 60) (v := ?_) (a' := ?_) #[true, true, true, true, true, true, true, true, true, false, true, true, true, true, true, false, false, false, false, false] rfl rfl (any_of HT_.out (by kernel_rfl)) (fun _ _ _ h => h) (Or.inl ⟨by rfl, ?_⟩) ?_ ?_
    rotate_left
    · intro w'
      go_simp
      with_reducible rfl
    rotate_left
    · simp only [Act.put, List.setIfInBounds_toArray, List.set_cons_zero, List.set_cons_succ, i64_w, i32_w]
      rfl
    refine take_ (i := 9) (N := some 61) (v := ?_) (a' := ?_) #[true, true, true, true, true, true, true, true, true, true, true, true, true, true, true, false, false, false, false, false] rfl rfl (take_ofW HT_.out HW_.out (by kernel_rfl)) (fun _ _ _ h => h) (Or.inl ⟨by rfl, ?_⟩) hHeld ?_ ?_
    rotate_left
    · rintro w' ⟨t0, t1, t2⟩
      go_simp
      with_reducible rfl
    rotate_left
    · simp only [Act.put, List.setIfInBounds_toArray, List.set_cons_zero, List.set_cons_succ, i64_w, i32_w]
      rfl
    refine one_ (i := 15) (N := some 67) #[true, true, true, true, true, true, true, true, true, true, true, true, true, true, true, true, false, false, false, false] rfl rfl (one_of HT_.out (by kernel_rfl)) (by decide) (fun K hK => ?_)
    refine goes_ Try.func87 (by kernel_rfl) rfl #[.pointer (some ⟨gz, 0, none⟩), .int .i64 n, .int .i64 i, .int .i64 j] (by rfl) rfl rfl (by (try simp only [List.map_toArray, List.map_cons, List.map_nil]); first | done | rfl) ?_
    with_reducible refine (HF.out _ HM.out).mono ?_
    rintro e w2 ⟨rfl, V2, hi2, hm2⟩
    refine ⟨_, rfl, ?_⟩
    have HI2 := Aside0.mk hi2
    refine hK.out _ _ (⟨hm2.get HZ.out, hm2.get HM1.out, hm2.get HM2.out⟩) (fun hHeld => ?_)
    clear hK K
    refine norm_ (a' := ?_) ?_ ?_
    rotate_left
    · show Act.put _ (some 67) _ = _
      simp only [Act.put, List.setIfInBounds_toArray, List.set_cons_zero, List.set_cons_succ, i64_w, i32_w]
      rfl
    refine one_ (i := 16) (N := some 68) #[true, true, true, true, true, true, true, true, true, true, true, true, true, true, true, true, true, false, false, false] rfl rfl (one_of HT_.out (by kernel_rfl)) (by decide) (fun K hK => ?_)
    refine goes_ Try.func86 (by kernel_rfl) rfl #[.bool _] (by rfl) rfl rfl (by (try simp only [List.map_toArray, List.map_cons, List.map_nil]); first | done | rfl) ?_
    with_reducible refine (spec_l1Bit.calls _ _ _ (by first | exact bit_t | exact bit_f)).mono ?_
    rintro e w3 ⟨rfl, hd⟩
    refine ⟨_, rfl, ?_⟩
    have hm3 := hm2.below (Drawn0.below hd)
    refine hK.out _ _ (⟨hm3.get HZ.out, hm3.get HM1.out, hm3.get HM2.out⟩) (fun hHeld => ?_)
    clear hK K
    refine norm_ (a' := ?_) ?_ ?_
    rotate_left
    · show Act.put _ (some 68) _ = _
      simp only [Act.put, List.setIfInBounds_toArray, List.set_cons_zero, List.set_cons_succ, i64_w, i32_w]
      rfl
    have HMX := Aside0.mk hm3
    clear hd hi2 hm2 hm3
    refine pure_ (i := 17) (N := some 69) (v := ?_) (a' := ?_) #[true, true, true, true, true, true, true, true, true, true, true, true, true, true, true, true, true, true, false, false] rfl rfl (any_of HT_.out (by kernel_rfl)) (fun _ _ _ h => h) (Or.inl ⟨by rfl, ?_⟩) ?_ ?_
    rotate_left
    · intro w'
      go_simp
      with_reducible rfl
    rotate_left
    · simp only [Act.put, List.setIfInBounds_toArray, List.set_cons_zero, List.set_cons_succ, i64_w, i32_w]
      rfl
    refine pure_ (i := 18) (N := some 70) (v := ?_) (a' := ?_) #[true, true, true, true, true, true, true, true, true, true, true, true, true, true, true, true, true, true, true, false] rfl rfl (any_of HT_.out (by kernel_rfl)) (fun _ _ _ h => h) (Or.inl ⟨by rfl, ?_⟩) ?_ ?_
    rotate_left
    · intro w'
      go_simp
      with_reducible rfl
    rotate_left
    · simp only [Act.put, List.setIfInBounds_toArray, List.set_cons_zero, List.set_cons_succ, i64_w, i32_w]
      rfl
    have hc9 := HMX.out.cell HB.out.1 HB.out.2.1 HB.out.2.2
    have hz9 := blk_frozen (HMX.out.rows n i HB.out.1 HB.out.2.1) j
    refine last_ (i := 19) (N := none) #[true, true, true, true, true, true, true, true, true, true, true, true, true, true, true, true, true, true, true, true] rfl rfl (one_of HT_.out (by kernel_rfl)) (by decide) (fun K hK => ?_)
    refine skip_ (w1 := ?_) (by rfl) rfl ?_ ?_
    rotate_left
    · go_simp
      rfl
    refine hK.out _ _ ?_
    clear hK K hc9 hz9
    refine done_ (done_of HT_.out (by kernel_rfl)) ?_
    clear HT_ HW_ hHeld
    rw [w64_2]
    have HMP := Aside0.mk (HMX.out.put HI.out HB.out.1 HB.out.2.1 j (bit2 false))
    generalize w3.setCell ⟨b n i, j, none⟩ (Value.int .i64 (bit2 false)) = w4 at HMP ⊢
    have k0 := HMP.out.get HZ.out
    have k1 := HMP.out.get HM1.out
    have k2 := HMP.out.get HM2.out
    have k3 := HMP.out.cell HB.out.1 HB.out.2.1 HB.out.2.2
    rw [upd_self, show bit2 false = 2 from rfl] at k3
    go_wp2
    go_ret
    exact ⟨rfl, _, HI2.out.put HE.out, HMP.out⟩
  · go_enter Try.func77, Try.ntmps77
    go_wp2
    refine start_ (n := 20) (S := (fun w' => w'.cell? ⟨gz, 3, none⟩ = some (.slice (some am) X.length c3) ∧ w'.cell? (am.add n) = some (.slice (some at_) N ca) ∧ w'.cell? (at_.add i) = some (.slice (some ⟨b n i, 0, none⟩) N N))) (ds := [19]) #[false, false, false, false, false, false, false, false, false, false, false, false, false, false, false, false, false, false, false, false] (by kernel_rfl) rfl rfl (⟨k0, k1, k2⟩) (fun hHeld => ?_); refine with_tabW tabsi4 bitssi4 (fun HT_ HW_ => ?_)
    clear k0 k1 k2 k3 k4 k5
    generalize World.drew W = Wd at HM hHeld ⊢
    refine pure_ (i := 0) (N := some 52) (v := ?_) (a' := ?_) #[true, false, false, false, false, false, false, false, false, false, false, false, false, false, false, false, false, false, false, false] rfl rfl (any_of HT_.out (by kernel_rfl)) (fun _ _ _ h => h) (Or.inl ⟨by rfl, ?_⟩) ?_ ?_
    rotate_left
    · intro w'
      go_simp
      with_reducible rfl
    rotate_left
    · simp only [Act.put, List.setIfInBounds_toArray, List.set_cons_zero, List.set_cons_succ, i64_w, i32_w]
      rfl
    refine pure_ (i := 1) (N := some 53) (v := ?_) (a' := ?_) #[true, true, false, false, false, false, false, false, false, false, false, false, false, false, false, false, false, false, false, false] rfl rfl (any_of HT_.out (by kernel_rfl)) (fun _ _ _ h => h) (Or.inl ⟨by rfl, ?_⟩) ?_ ?_
    rotate_left
    · intro w'
      go_simp
      with_reducible rfl
    rotate_left
    · simp only [Act.put, List.setIfInBounds_toArray, List.set_cons_zero, List.set_cons_succ, i64_w, i32_w]
      rfl
    refine pure_ (i := 2) (N := some 54) (v := ?_) (a' := ?_) #[true, true, true, false, false, false, false, false, false, false, false, false, false, false, false, false, false, false, false, false] rfl rfl (any_of HT_.out (by kernel_rfl)) (fun _ _ _ h => h) (Or.inl ⟨by rfl, ?_⟩) ?_ ?_
    rotate_left
    · intro w'
      go_simp
      with_reducible rfl
    rotate_left
    · simp only [Act.put, List.setIfInBounds_toArray, List.set_cons_zero, List.set_cons_succ, i64_w, i32_w]
      rfl
    refine pure_ (i := 4) (N := some 56) (v := ?_) (a' := ?_) #[true, true, true, false, true, false, false, false, false, false, false, false, false, false, false, false, false, false, false, false] rfl rfl (any_of HT_.out (by kernel_rfl)) (fun _ _ _ h => h) (Or.inl ⟨by rfl, ?_⟩) ?_ ?_
    rotate_left
    · intro w'
      go_simp
      with_reducible rfl
    rotate_left
    · simp only [Act.put, List.setIfInBounds_toArray, List.set_cons_zero, List.set_cons_succ, i64_w, i32_w]
      rfl
    refine pure_ (i := 7) (N := some 59) (v := ?_) (a' := ?_) #[true, true, true, false, true, false, false, true, false, false, false, false, false, false, false, false, false, false, false, false] rfl rfl (any_of HT_.out (by kernel_rfl)) (fun _ _ _ h => h) (Or.inl ⟨by rfl, ?_⟩) ?_ ?_
    rotate_left
    · intro w'
      go_simp
      with_reducible rfl
    rotate_left
    · simp only [Act.put, List.setIfInBounds_toArray, List.set_cons_zero, List.set_cons_succ, i64_w, i32_w]
      rfl
    refine pure_ (i := 10) (N := some 62) (v := ?_) (a' := ?_) #[true, true, true, false, true, false, false, true, false, false, true, false, false, false, false, false, false, false, false, false] rfl rfl (any_of HT_.out (by kernel_rfl)) (fun _ _ _ h => h) (Or.inl ⟨by rfl, ?_⟩) ?_ ?_
    rotate_left
    · intro w'
      go_simp
      with_reducible rfl
    rotate_left
    · simp only [Act.put, List.setIfInBounds_toArray, List.set_cons_zero, List.set_cons_succ, i64_w, i32_w]
      rfl
    refine pure_ (i := 11) (N := some 63) (v := ?_) (a' := ?_) #[true, true, true, false, true, false, false, true, false, false, true, true, false, false, false, false, false, false, false, false] rfl rfl (any_of HT_.out (by kernel_rfl)) (fun _ _ _ h => h) (Or.inl ⟨by rfl, ?_⟩) ?_ ?_
    rotate_left
    · intro w'
      go_simp
      with_reducible rfl
    rotate_left
    · simp only [Act.put, List.setIfInBounds_toArray, List.set_cons_zero, List.set_cons_succ, i64_w, i32_w]
      rfl
    refine pure_ (i := 12) (N := some 64) (v := ?_) (a' := ?_) #[true, true, true, false, true, false, false, true, false, false, true, true, true, false, false, false, false, false, false, false] rfl rfl (any_of HT_.out (by kernel_rfl)) (fun _ _ _ h => h) (Or.inl ⟨by rfl, ?_⟩) ?_ ?_
    rotate_left
    · intro w'
      go_simp
      with_reducible rfl
    rotate_left
    · simp only [Act.put, List.setIfInBounds_toArray, List.set_cons_zero, List.set_cons_succ, i64_w, i32_w]
      rfl
    refine pure_ (i := 13) (N := some 65) (v := ?_) (a' := ?_) #[true, true, true, false, true, false, false, true, false, false, true, true, true, true, false, false, false, false, false, false] rfl rfl (any_of HT_.out (by kernel_rfl)) (fun _ _ _ h => h) (Or.inl ⟨by rfl, ?_⟩) ?_ ?_
    rotate_left
    · intro w'
      go_simp
      with_reducible rfl
    rotate_left
    · simp only [Act.put, List.setIfInBounds_toArray, List.set_cons_zero, List.set_cons_succ, i64_w, i32_w]
      rfl
    refine pure_ (i := 14) (N := some 66) (v := ?_) (a' := ?_) #[true, true, true, false, true, false, false, true, false, false, true, true, true, true, true, false, false, false, false, false] rfl rfl (any_of HT_.out (by kernel_rfl)) (fun _ _ _ h => h) (Or.inl ⟨by rfl, ?_⟩) ?_ ?_
    rotate_left
    · intro w'
      go_simp
      with_reducible rfl
    rotate_left
    · simp only [Act.put, List.setIfInBounds_toArray, List.set_cons_zero, List.set_cons_succ, i64_w, i32_w]
      rfl
    refine take_ (i := 3) (N := some 55) (v := ?_) (a' := ?_) #[true, true, true, true, true, false, false, true, false, false, true, true, true, true, true, false, false, false, false, false] rfl rfl (take_ofW HT_.out HW_.out (by kernel_rfl)) (fun _ _ _ h => h) (Or.inl ⟨by rfl, ?_⟩) hHeld ?_ ?_
    rotate_left
    · rintro w' ⟨t0, t1, t2⟩
      go_simp
      with_reducible rfl
    rotate_left
    · simp only [Act.put, List.setIfInBounds_toArray, List.set_cons_zero, List.set_cons_succ, i64_w, i32_w]
      rfl
    refine pure_ (i := 5) (N := some 57) (v := ?_) (a' := ?_) #[true, true, true, true, true, true, false, true, false, false, true, true, true, true, true, false, false, false, false, false] rfl rfl (any_of HT_.out (by kernel_rfl)) (fun _ _ _ h => h) (Or.inl ⟨by rfl, ?_⟩) ?_ ?_
    rotate_left
    · intro w'
      go_simp
      with_reducible rfl
    rotate_left
    · simp only [Act.put, List.setIfInBounds_toArray, List.set_cons_zero, List.set_cons_succ, i64_w, i32_w]
      rfl
    refine take_ (i := 6) (N := some 58) (v := ?_) (a' := ?_) #[true, true, true, true, true, true, true, true, false, false, true, true, true, true, true, false, false, false, false, false] rfl rfl (take_ofW HT_.out HW_.out (by kernel_rfl)) (fun _ _ _ h => h) (Or.inl ⟨by rfl, ?_⟩) hHeld ?_ ?_
    rotate_left
    · rintro w' ⟨t0, t1, t2⟩
      go_simp
      with_reducible rfl
    rotate_left
    · simp only [Act.put, List.setIfInBounds_toArray, List.set_cons_zero, List.set_cons_succ, i64_w, i32_w]
      rfl
    refine pure_ (i := 8) (N := some 60) (v := ?_) (a' := ?_) #[true, true, true, true, true, true, true, true, true, false, true, true, true, true, true, false, false, false, false, false] rfl rfl (any_of HT_.out (by kernel_rfl)) (fun _ _ _ h => h) (Or.inl ⟨by rfl, ?_⟩) ?_ ?_
    rotate_left
    · intro w'
      go_simp
      with_reducible rfl
    rotate_left
    · simp only [Act.put, List.setIfInBounds_toArray, List.set_cons_zero, List.set_cons_succ, i64_w, i32_w]
      rfl
    refine take_ (i := 9) (N := some 61) (v := ?_) (a' := ?_) #[true, true, true, true, true, true, true, true, true, true, true, true, true, true, true, false, false, false, false, false] rfl rfl (take_ofW HT_.out HW_.out (by kernel_rfl)) (fun _ _ _ h => h) (Or.inl ⟨by rfl, ?_⟩) hHeld ?_ ?_
    rotate_left
    · rintro w' ⟨t0, t1, t2⟩
      go_simp
      with_reducible rfl
    rotate_left
    · simp only [Act.put, List.setIfInBounds_toArray, List.set_cons_zero, List.set_cons_succ, i64_w, i32_w]
      rfl
    refine one_ (i := 15) (N := some 67) #[true, true, true, true, true, true, true, true, true, true, true, true, true, true, true, true, false, false, false, false] rfl rfl (one_of HT_.out (by kernel_rfl)) (by decide) (fun K hK => ?_)
    refine goes_ Try.func87 (by kernel_rfl) rfl #[.pointer (some ⟨gz, 0, none⟩), .int .i64 n, .int .i64 i, .int .i64 j] (by rfl) rfl rfl (by (try simp only [List.map_toArray, List.map_cons, List.map_nil]); first | done | rfl) ?_
    with_reducible refine (HF.out _ HM.out).mono ?_
    rintro e w2 ⟨rfl, V2, hi2, hm2⟩
    refine ⟨_, rfl, ?_⟩
    have HI2 := Aside0.mk hi2
    refine hK.out _ _ (⟨hm2.get HZ.out, hm2.get HM1.out, hm2.get HM2.out⟩) (fun hHeld => ?_)
    clear hK K
    refine norm_ (a' := ?_) ?_ ?_
    rotate_left
    · show Act.put _ (some 67) _ = _
      simp only [Act.put, List.setIfInBounds_toArray, List.set_cons_zero, List.set_cons_succ, i64_w, i32_w]
      rfl
    refine one_ (i := 16) (N := some 68) #[true, true, true, true, true, true, true, true, true, true, true, true, true, true, true, true, true, false, false, false] rfl rfl (one_of HT_.out (by kernel_rfl)) (by decide) (fun K hK => ?_)
    refine goes_ Try.func86 (by kernel_rfl) rfl #[.bool _] (by rfl) rfl rfl (by (try simp only [List.map_toArray, List.map_cons, List.map_nil]); first | done | rfl) ?_
    with_reducible refine (spec_l1Bit.calls _ _ _ (by first | exact bit_t | exact bit_f)).mono ?_
    rintro e w3 ⟨rfl, hd⟩
    refine ⟨_, rfl, ?_⟩
    have hm3 := hm2.below (Drawn0.below hd)
    refine hK.out _ _ (⟨hm3.get HZ.out, hm3.get HM1.out, hm3.get HM2.out⟩) (fun hHeld => ?_)
    clear hK K
    refine norm_ (a' := ?_) ?_ ?_
    rotate_left
    · show Act.put _ (some 68) _ = _
      simp only [Act.put, List.setIfInBounds_toArray, List.set_cons_zero, List.set_cons_succ, i64_w, i32_w]
      rfl
    have HMX := Aside0.mk hm3
    clear hd hi2 hm2 hm3
    refine pure_ (i := 17) (N := some 69) (v := ?_) (a' := ?_) #[true, true, true, true, true, true, true, true, true, true, true, true, true, true, true, true, true, true, false, false] rfl rfl (any_of HT_.out (by kernel_rfl)) (fun _ _ _ h => h) (Or.inl ⟨by rfl, ?_⟩) ?_ ?_
    rotate_left
    · intro w'
      go_simp
      with_reducible rfl
    rotate_left
    · simp only [Act.put, List.setIfInBounds_toArray, List.set_cons_zero, List.set_cons_succ, i64_w, i32_w]
      rfl
    refine pure_ (i := 18) (N := some 70) (v := ?_) (a' := ?_) #[true, true, true, true, true, true, true, true, true, true, true, true, true, true, true, true, true, true, true, false] rfl rfl (any_of HT_.out (by kernel_rfl)) (fun _ _ _ h => h) (Or.inl ⟨by rfl, ?_⟩) ?_ ?_
    rotate_left
    · intro w'
      go_simp
      with_reducible rfl
    rotate_left
    · simp only [Act.put, List.setIfInBounds_toArray, List.set_cons_zero, List.set_cons_succ, i64_w, i32_w]
      rfl
    have hc9 := HMX.out.cell HB.out.1 HB.out.2.1 HB.out.2.2
    have hz9 := blk_frozen (HMX.out.rows n i HB.out.1 HB.out.2.1) j
    refine last_ (i := 19) (N := none) #[true, true, true, true, true, true, true, true, true, true, true, true, true, true, true, true, true, true, true, true] rfl rfl (one_of HT_.out (by kernel_rfl)) (by decide) (fun K hK => ?_)
    refine skip_ (w1 := ?_) (by rfl) rfl ?_ ?_
    rotate_left
    · go_simp
      rfl
    refine hK.out _ _ ?_
    clear hK K hc9 hz9
    refine done_ (done_of HT_.out (by kernel_rfl)) ?_
    clear HT_ HW_ hHeld
    rw [w64_1]
    have HMP := Aside0.mk (HMX.out.put HI.out HB.out.1 HB.out.2.1 j (bit2 true))
    generalize w3.setCell ⟨b n i, j, none⟩ (Value.int .i64 (bit2 true)) = w4 at HMP ⊢
    have k0 := HMP.out.get HZ.out
    have k1 := HMP.out.get HM1.out
    have k2 := HMP.out.get HM2.out
    have k3 := HMP.out.cell HB.out.1 HB.out.2.1 HB.out.2.2
    rw [upd_self, show bit2 true = 1 from rfl] at k3
    go_wp2
    go_ret
    exact ⟨rfl, _, HI2.out.put HE.out, HMP.out⟩
structure Sg (w0 w1 : World) (T N : Nat) (b : Nat → Nat → Nat) (E : Nat → Nat → Nat → Bool) (V : Nat → Nat → Nat → Int) (n i k top : Nat) (W : World) (V' : Nat → Nat → Nat → Int) : Prop where
  ok : OkV E V n
  inv : ∀ n' i' j, (n' = n ∧ i' = i ∧ i ≤ j ∧ j < top) ∨ V' n' i' j = V n' i' j ∨ (n' < n ∧ V' n' i' j = bit2 (E n' i' j))
  done : ∀ j, i ≤ j → j < k → V' n i j = bit2 (E n i j)
  mem : Ms w0 w1 W T N b V'
section
variable {w0 w1 W W' W2 : World} {T N n i p k : Nat} {b : Nat → Nat → Nat} {E : Nat → Nat → Nat → Bool} {V V' : Nat → Nat → Nat → Int} {r cb : Bool} {e : Ending}
theorem Sg.set (hinj : ∀ n i n' i', n < T → i < N → n' < T → i' < N → b n i = b n' i' → n = n' ∧ i = i') (hn : n < T) (hi : i < N) (hk : i ≤ k) {top : Nat} (ht : k ≤ top) (ht2 : top ≤ k + 1) (h : Sg w0 w1 T N b E V n i k top W V') (x : Int) : Sg w0 w1 T N b E V n i k (k + 1) (W.setCell ⟨b n i, k, none⟩ (.int .i64 x)) (upd V' n i k x) := by
  refine ⟨h.ok, fun n' i' j => ?_, fun j h1 h2 => ?_, h.mem.put hinj hn hi k x⟩
  · by_cases q : n' = n ∧ i' = i ∧ j = k
    · obtain ⟨rfl, rfl, rfl⟩ := q
      exact Or.inl ⟨rfl, rfl, hk, by omega⟩
    · rw [upd_other q]
      rcases h.inv n' i' j with ⟨a1, a2, a3, a4⟩ | a | a
      · exact Or.inl ⟨a1, a2, a3, by omega⟩
      · exact Or.inr (Or.inl a)
      · exact Or.inr (Or.inr a)
  · rw [upd_other (by omega)]
    exact h.done j h1 h2
theorem Sg.child {top : Nat} (h : Sg w0 w1 T N b E V n i k top W V') (hp : p < n) (g : PostS w0 w1 T N b E V' (p + 1) r e W2) : e = .returned (.bool r) ∧ ∃ V2, Sg w0 w1 T N b E V n i k top W2 V2 ∧ ∀ j, V2 n i j = V' n i j := by
  obtain ⟨he, V2, h1, h2⟩ := g
  have same : ∀ i' j, V2 n i' j = V' n i' j := fun i' j => by
    rcases h1 n i' j with a | ⟨a, _⟩
    · exact a
    · omega
  refine ⟨he, V2, ⟨h.ok, fun n' i' j => ?_, fun j a1 a2 => by rw [same]; exact h.done j a1 a2, h2⟩, fun j => same i j⟩
  rcases h1 n' i' j with a | ⟨a, a2⟩
  · rw [a]; exact h.inv n' i' j
  · exact Or.inr (Or.inr ⟨by omega, a2⟩)
theorem Sg.oks {top : Nat} (h : Sg w0 w1 T N b E V n i k top W V') (hp : p < n) : OkV E V' (p + 1) := fun n' i' j hn => by
  rcases h.inv n' i' j with ⟨a, _⟩ | a | ⟨_, a⟩
  · omega
  · rw [a]; exact h.ok n' i' j (by omega)
  · exact Or.inr a
theorem Sg.next (h : Sg w0 w1 T N b E V n i k (k + 1) W V') (hv : V' n i k = bit2 (E n i k)) : Sg w0 w1 T N b E V n i (k + 1) (k + 1) W V' := ⟨h.ok, h.inv, fun j h1 h2 => by
  by_cases q : j = k
  · rw [q]; exact hv
  · exact h.done j h1 (by omega), h.mem⟩
theorem Sg.below {top : Nat} (h : Sg w0 w1 T N b E V n i k top W V') (hb : Below W.heap.size W W2) : Sg w0 w1 T N b E V n i k top W2 V' := ⟨h.ok, h.inv, h.done, h.mem.below hb⟩
theorem Sg.post (h : Sg w0 w1 T N b E V n i k k W V') : Inv E V V' (n + 1) := fun n' i' j => by
  rcases h.inv n' i' j with ⟨rfl, rfl, a, a2⟩ | a | ⟨a, a2⟩
  · exact Or.inr ⟨by omega, h.done j a a2⟩
  · exact Or.inl a
  · exact Or.inr ⟨by omega, a2⟩
end
structure Told (c : Bool) (P Q : Prop) : Prop where
  t : c = true → P
  f : c = false → Q
def Tss3 : Bool × List (List Nat × List Nat) := (true, [([], []), ([0], [0]), ([1], [1]), ([2], [2]), ([], []), ([3, 4], [3, 4]), ([5], [5]), ([], []), ([6, 7], [6, 7]), ([8], [8]), ([], []), ([], []), ([], []), ([11, 12], [11, 12]), ([13], [13]), ([14], [14]), ([9, 10, 0, 1, 2, 3, 4, 5, 6, 7, 8, 9, 10, 11, 12, 13, 14, 15], [9, 10]), ([16, 15, 14, 0, 1, 2, 3, 4, 5, 6, 7, 8, 9, 10, 11, 12, 13, 14, 15], [15, 16])])
def Bss3 : List Nat := [0, 1, 3, 7, 0, 31, 63, 0, 255, 511, 0, 0, 0, 6144, 14336, 30720, 65535, 131071]
theorem tabss3 : rtab .any (opsOf Try.f85 3) = Tss3 := by kernel_rfl
theorem bitsss3 : waitsOk Tss3.2 Bss3 = true := by kernel_rfl
theorem bit_w (cb : Bool) : ∃ r, spec_l1Bit.f cb = some r ∧ wrap64 (2 - r) = bit2 cb := by
  cases cb
  · exact ⟨0, bit_f, by show wrap64 2 = 2; unfold wrap64; omega⟩
  · exact ⟨1, bit_t, by show wrap64 1 = 1; unfold wrap64; omega⟩
set_option maxHeartbeats 4000000 in
set_option maxRecDepth 100000 in
theorem starFill (w0 w1 W : World) (gz : Nat) (s : ByteArray) (N : Nat) (X : List Rx) (C : List (List Int)) (b : Nat → Nat → Nat) (an aa am : Addr) (E : Nat → Nat → Nat → Bool) (V : Nat → Nat → Nat → Int) (lay : Lay w1 gz s N X C b an aa am) (n i p : Nat) (y : Rx) (hx : X[n]? = some (.star y)) (hc : C[n]? = some [(p : Int)]) (hp : p < n) (hi : i < N) (hNs : N = s.size + 1) (hN : N ≤ 1000) (hT : X.length ≤ 1000) (hok : OkV E V n) (hm : Ms w0 w1 W X.length N b V) (hk : KidS w0 w1 gz X.length N b E p (p : Int))
    (hE : ∀ k, i ≤ k → k < N → (E n i k = true ↔ i = k ∨ ∃ m, i ≤ m ∧ m < k ∧ E n i m = true ∧ E p m k = true)) :
    Calls Try.prog 85 #[.pointer (some ⟨gz, 0, none⟩), .int .i64 n, .int .i64 i] W (fun e W' => e = .returned (.tuple #[]) ∧ ∃ V', Inv E V V' (n + 1) ∧ Ms w0 w1 W' X.length N b V' ∧ ∀ k, i ≤ k → k < N → V' n i k = bit2 (E n i k)) := by
  have HS : Aside0 (Sg w0 w1 X.length N b E V n i i i W V) := ⟨hok, fun _ _ _ => Or.inr (Or.inl rfl), fun j h1 h2 => by omega, hm⟩
  have hn : n < X.length := (List.getElem?_eq_some_iff.mp hx).1
  obtain ⟨c2, z2⟩ := lay.z2
  obtain ⟨c3, z3⟩ := lay.z3
  obtain ⟨at_, ca, m1, m2⟩ := lay.mr n hn
  obtain ⟨A, cc, a1, a2⟩ := lay.ak n _ hc
  obtain ⟨ad, rfl, a3⟩ := a2 0 _ rfl
  rw [Addr.add_zero'] at a3
  have HI : Aside0 (∀ n' i' n'' i'', n' < X.length → i' < N → n'' < X.length → i'' < N → b n' i' = b n'' i'' → n' = n'' ∧ i' = i'') := ⟨lay.inj⟩
  have HB : Aside0 (n < X.length ∧ i < N ∧ p < n ∧ N = s.size + 1 ∧ N ≤ 1000) := ⟨hn, hi, hp, hNs, hN⟩
  have H0 := Aside0.mk lay.zs
  have H3 := Aside0.mk z3
  have HM1 := Aside0.mk m1
  have HM2 := Aside0.mk (m2 i hi)
  have H2 := Aside0.mk z2
  have HA1 := Aside0.mk a1
  have HA3 := Aside0.mk a3
  have HKD := Aside0.mk hk
  have HE := Aside0.mk hE
  have p1 : ((0 : Int) ≤ (n : Int)) = True := eq_true (by omega)
  have q1 : ((n : Int) < (X.length : Int)) = True := eq_true (by omega)
  have q1n : (n < X.length) = True := eq_true (by omega)
  have p2 : ((0 : Int) ≤ (i : Int)) = True := eq_true (by omega)
  have q2 : ((i : Int) < (N : Int)) = True := eq_true (by omega)
  have q2n : (i < N) = True := eq_true (by omega)
  clear z2 z3 m1 m2 a1 a2 a3 lay hm hx hc hok hn hi hp hk hE hNs hN hT
  go_enter Try.func85, Try.ntmps85
  go_wp2
  go_loopg [6, 7] (N + 1) (fun gg v6 v7 w' => ∃ (k : Nat) (kz : Int) (V' : Nat → Nat → Nat → Int), v6 = .int .i64 kz ∧ Aside0 (kz = (k : Int)) ∧ Aside0 (i ≤ k ∧ k ≤ N) ∧ Aside0 (N + 1 ≤ gg + k) ∧ Aside0 (Sg w0 w1 X.length N b E V n i k k w' V'))
  case atStart => exact ⟨i, (i : Int), V, rfl, ⟨rfl⟩, ⟨by have := HB.out; omega⟩, ⟨by omega⟩, HS⟩
  case round =>
    clear HS
    obtain ⟨k, kz, V', rfl, ⟨rfl⟩, HKK, HG, HS⟩ := hrel
    cases gk with
    | zero => exact absurd HG.out (by have := HKK.out; omega)
    | succ g1 =>
    have x0 := HS.out.mem.get H0.out
    by_cases hkn : k < N
    · have HKN := Aside0.mk hkn
      have HWK : Aside0 (wrap64 ((k : Int) + 1) = ((k + 1 : Nat) : Int)) := ⟨up1 (by have := HB.out; omega)⟩
      have d1 : decide ((k : Int) ≤ (s.size : Int)) = true := decide_eq_true (by have := HB.out; omega)
      have d2 : ((k : Int) ≤ (s.size : Int)) = True := eq_true (by have := HB.out; omega)
      have p3 : ((0 : Int) ≤ (k : Int)) = True := eq_true (by omega)
      have q3 : ((k : Int) < (N : Int)) = True := eq_true (by omega)
      have q3n : (k < N) = True := eq_true (by omega)
      have x3 := HS.out.mem.get H3.out
      have x1 := HS.out.mem.get HM1.out
      have x2 := HS.out.mem.get HM2.out
      obtain ⟨cb, hcb⟩ : ∃ cb, cb = decide (k = i) := ⟨_, rfl⟩
      have e3 : decide ((k : Int) = (i : Int)) = cb := by rw [hcb]; exact decide_eq_decide.mpr (by omega)
      have e2 : ((k : Int) == (i : Int)) = cb := by rw [← e3]; rfl
      obtain ⟨r, hr1, hr2⟩ := bit_w cb
      have HR1 := Aside0.mk hr1
      have HR2 := Aside0.mk hr2
      have HCB := Aside0.mk hcb
      clear hcb hr1 hr2 hkn
      generalize hwz : wr = wz at HS x0 x1 x2 x3 ⊢
      go_wp2
      have HSB := Aside0.mk (HS.out.below (below_drew1 (Below.refl _ _)))
      refine start_ (n := 18) (S := (fun w' => w'.cell? ⟨gz, 3, none⟩ = some (.slice (some am) X.length c3) ∧ w'.cell? (am.add n) = some (.slice (some at_) N ca) ∧ w'.cell? (at_.add i) = some (.slice (some ⟨b n i, 0, none⟩) N N))) (ds := [17]) #[false, false, false, false, false, false, false, false, false, false, false, false, false, false, false, false, false, false] (by kernel_rfl) rfl rfl (⟨x3, x1, x2⟩) (fun hHeld => ?_); refine with_tabW tabss3 bitsss3 (fun HT_ HW_ => ?_)
      clear x0 x1 x2 x3 HS
      generalize World.drew wz = wd at HSB hHeld ⊢
      refine pure_ (i := 0) (N := some 18) (v := ?_) (a' := ?_) #[true, false, false, false, false, false, false, false, false, false, false, false, false, false, false, false, false, false] rfl rfl (any_of HT_.out (by kernel_rfl)) (fun _ _ _ h => h) (Or.inl ⟨by rfl, ?_⟩) ?_ ?_
      rotate_left
      · intro w'
        go_simp
        with_reducible rfl
      rotate_left
      · simp only [Act.put, List.setIfInBounds_toArray, List.set_cons_zero, List.set_cons_succ, i64_w, i32_w]
        rfl
      refine pure_ (i := 1) (N := some 19) (v := ?_) (a' := ?_) #[true, true, false, false, false, false, false, false, false, false, false, false, false, false, false, false, false, false] rfl rfl (any_of HT_.out (by kernel_rfl)) (fun _ _ _ h => h) (Or.inl ⟨by rfl, ?_⟩) ?_ ?_
      rotate_left
      · intro w'
        go_simp
        with_reducible rfl
      rotate_left
      · simp only [Act.put, List.setIfInBounds_toArray, List.set_cons_zero, List.set_cons_succ, i64_w, i32_w]
        rfl
      refine pure_ (i := 2) (N := some 20) (v := ?_) (a' := ?_) #[true, true, true, false, false, false, false, false, false, false, false, false, false, false, false, false, false, false] rfl rfl (any_of HT_.out (by kernel_rfl)) (fun _ _ _ h => h) (Or.inl ⟨by rfl, ?_⟩) ?_ ?_
      rotate_left
      · intro w'
        go_simp
        with_reducible rfl
      rotate_left
      · simp only [Act.put, List.setIfInBounds_toArray, List.set_cons_zero, List.set_cons_succ, i64_w, i32_w]
        rfl
      refine pure_ (i := 4) (N := some 22) (v := ?_) (a' := ?_) #[true, true, true, false, true, false, false, false, false, false, false, false, false, false, false, false, false, false] rfl rfl (any_of HT_.out (by kernel_rfl)) (fun _ _ _ h => h) (Or.inl ⟨by rfl, ?_⟩) ?_ ?_
      rotate_left
      · intro w'
        go_simp
        with_reducible rfl
      rotate_left
      · simp only [Act.put, List.setIfInBounds_toArray, List.set_cons_zero, List.set_cons_succ, i64_w, i32_w]
        rfl
      refine pure_ (i := 7) (N := some 25) (v := ?_) (a' := ?_) #[true, true, true, false, true, false, false, true, false, false, false, false, false, false, false, false, false, false] rfl rfl (any_of HT_.out (by kernel_rfl)) (fun _ _ _ h => h) (Or.inl ⟨by rfl, ?_⟩) ?_ ?_
      rotate_left
      · intro w'
        go_simp
        with_reducible rfl
      rotate_left
      · simp only [Act.put, List.setIfInBounds_toArray, List.set_cons_zero, List.set_cons_succ, i64_w, i32_w]
        rfl
      refine pure_ (i := 10) (N := some 28) (v := ?_) (a' := ?_) #[true, true, true, false, true, false, false, true, false, false, true, false, false, false, false, false, false, false] rfl rfl (any_of HT_.out (by kernel_rfl)) (fun _ _ _ h => h) (Or.inl ⟨by rfl, ?_⟩) ?_ ?_
      rotate_left
      · intro w'
        go_simp
        with_reducible rfl
      rotate_left
      · simp only [Act.put, List.setIfInBounds_toArray, List.set_cons_zero, List.set_cons_succ, i64_w, i32_w]
        rfl
      refine pure_ (i := 11) (N := some 29) (v := ?_) (a' := ?_) #[true, true, true, false, true, false, false, true, false, false, true, true, false, false, false, false, false, false] rfl rfl (any_of HT_.out (by kernel_rfl)) (fun _ _ _ h => h) (Or.inl ⟨by rfl, ?_⟩) ?_ ?_
      rotate_left
      · intro w'
        go_simp
        with_reducible rfl
      rotate_left
      · simp only [Act.put, List.setIfInBounds_toArray, List.set_cons_zero, List.set_cons_succ, i64_w, i32_w]
        rfl
      refine pure_ (i := 12) (N := some 30) (v := ?_) (a' := ?_) #[true, true, true, false, true, false, false, true, false, false, true, true, true, false, false, false, false, false] rfl rfl (any_of HT_.out (by kernel_rfl)) (fun _ _ _ h => h) (Or.inl ⟨by rfl, ?_⟩) ?_ ?_
      rotate_left
      · intro w'
        go_simp
        with_reducible rfl
      rotate_left
      · simp only [Act.put, List.setIfInBounds_toArray, List.set_cons_zero, List.set_cons_succ, i64_w, i32_w]
        rfl
      refine pure_ (i := 13) (N := some 31) (v := ?_) (a' := ?_) #[true, true, true, false, true, false, false, true, false, false, true, true, true, true, false, false, false, false] rfl rfl (any_of HT_.out (by kernel_rfl)) (fun _ _ _ h => h) (Or.inl ⟨by rfl, ?_⟩) ?_ ?_
      rotate_left
      · intro w'
        go_simp
        with_reducible rfl
      rotate_left
      · simp only [Act.put, List.setIfInBounds_toArray, List.set_cons_zero, List.set_cons_succ, i64_w, i32_w]
        rfl
      refine take_ (i := 3) (N := some 21) (v := ?_) (a' := ?_) #[true, true, true, true, true, false, false, true, false, false, true, true, true, true, false, false, false, false] rfl rfl (take_ofW HT_.out HW_.out (by kernel_rfl)) (fun _ _ _ h => h) (Or.inl ⟨by rfl, ?_⟩) hHeld ?_ ?_
      rotate_left
      · rintro w' ⟨t0, t1, t2⟩
        go_simp
        with_reducible rfl
      rotate_left
      · simp only [Act.put, List.setIfInBounds_toArray, List.set_cons_zero, List.set_cons_succ, i64_w, i32_w]
        rfl
      refine pure_ (i := 5) (N := some 23) (v := ?_) (a' := ?_) #[true, true, true, true, true, true, false, true, false, false, true, true, true, true, false, false, false, false] rfl rfl (any_of HT_.out (by kernel_rfl)) (fun _ _ _ h => h) (Or.inl ⟨by rfl, ?_⟩) ?_ ?_
      rotate_left
      · intro w'
        go_simp
        with_reducible rfl
      rotate_left
      · simp only [Act.put, List.setIfInBounds_toArray, List.set_cons_zero, List.set_cons_succ, i64_w, i32_w]
        rfl
      refine take_ (i := 6) (N := some 24) (v := ?_) (a' := ?_) #[true, true, true, true, true, true, true, true, false, false, true, true, true, true, false, false, false, false] rfl rfl (take_ofW HT_.out HW_.out (by kernel_rfl)) (fun _ _ _ h => h) (Or.inl ⟨by rfl, ?_⟩) hHeld ?_ ?_
      rotate_left
      · rintro w' ⟨t0, t1, t2⟩
        go_simp
        with_reducible rfl
      rotate_left
      · simp only [Act.put, List.setIfInBounds_toArray, List.set_cons_zero, List.set_cons_succ, i64_w, i32_w]
        rfl
      refine pure_ (i := 8) (N := some 26) (v := ?_) (a' := ?_) #[true, true, true, true, true, true, true, true, true, false, true, true, true, true, false, false, false, false] rfl rfl (any_of HT_.out (by kernel_rfl)) (fun _ _ _ h => h) (Or.inl ⟨by rfl, ?_⟩) ?_ ?_
      rotate_left
      · intro w'
        go_simp
        with_reducible rfl
      rotate_left
      · simp only [Act.put, List.setIfInBounds_toArray, List.set_cons_zero, List.set_cons_succ, i64_w, i32_w]
        rfl
      refine take_ (i := 9) (N := some 27) (v := ?_) (a' := ?_) #[true, true, true, true, true, true, true, true, true, true, true, true, true, true, false, false, false, false] rfl rfl (take_ofW HT_.out HW_.out (by kernel_rfl)) (fun _ _ _ h => h) (Or.inl ⟨by rfl, ?_⟩) hHeld ?_ ?_
      rotate_left
      · rintro w' ⟨t0, t1, t2⟩
        go_simp
        with_reducible rfl
      rotate_left
      · simp only [Act.put, List.setIfInBounds_toArray, List.set_cons_zero, List.set_cons_succ, i64_w, i32_w]
        rfl
      refine one_ (i := 14) (N := some 32) #[true, true, true, true, true, true, true, true, true, true, true, true, true, true, true, false, false, false] rfl rfl (one_of HT_.out (by kernel_rfl)) (by decide) (fun K hK => ?_)
      refine goes_ Try.func86 (by kernel_rfl) rfl #[.bool cb] (by rfl) rfl rfl (by (try simp only [List.map_toArray, List.map_cons, List.map_nil]); first | done | rfl) ?_
      with_reducible refine (spec_l1Bit.calls cb r _ HR1.out).mono ?_
      rintro e w3 ⟨rfl, hd⟩
      refine ⟨_, rfl, ?_⟩
      have hs3 := HSB.out.below (Drawn0.below hd)
      have HS3 := Aside0.mk hs3
      refine hK.out _ _ (⟨hs3.mem.get H3.out, hs3.mem.get HM1.out, hs3.mem.get HM2.out⟩) (fun hHeld => ?_)
      clear hK K
      refine norm_ (a' := ?_) ?_ ?_
      rotate_left
      · show Act.put _ (some 32) _ = _
        simp only [Act.put, List.setIfInBounds_toArray, List.set_cons_zero, List.set_cons_succ, i64_w, i32_w]
        rfl
      clear hd hs3 HSB
      refine pure_ (i := 15) (N := some 33) (v := ?_) (a' := ?_) #[true, true, true, true, true, true, true, true, true, true, true, true, true, true, true, true, false, false] rfl rfl (any_of HT_.out (by kernel_rfl)) (fun _ _ _ h => h) (Or.inl ⟨by rfl, ?_⟩) ?_ ?_
      rotate_left
      · intro w'
        go_simp
        with_reducible rfl
      rotate_left
      · simp only [Act.put, List.setIfInBounds_toArray, List.set_cons_zero, List.set_cons_succ, i64_w, i32_w]
        rfl
      refine pure_ (i := 16) (N := some 34) (v := ?_) (a' := ?_) #[true, true, true, true, true, true, true, true, true, true, true, true, true, true, true, true, true, false] rfl rfl (any_of HT_.out (by kernel_rfl)) (fun _ _ _ h => h) (Or.inl ⟨by rfl, ?_⟩) ?_ ?_
      rotate_left
      · intro w'
        go_simp
        with_reducible rfl
      rotate_left
      · simp only [Act.put, List.setIfInBounds_toArray, List.set_cons_zero, List.set_cons_succ, i64_w, i32_w]
        rfl
      have hc9 := HS3.out.mem.cell HB.out.1 HB.out.2.1 HKN.out
      have hz9 := blk_frozen (HS3.out.mem.rows n i HB.out.1 HB.out.2.1) k
      refine last_ (i := 17) (N := none) #[true, true, true, true, true, true, true, true, true, true, true, true, true, true, true, true, true, true] rfl rfl (one_of HT_.out (by kernel_rfl)) (by decide) (fun K hK => ?_)
      refine skip_ (w1 := ?_) (by rfl) rfl ?_ ?_
      rotate_left
      · go_simp
        rfl
      refine hK.out _ _ ?_
      clear hK K hc9 hz9
      refine done_ (done_of HT_.out (by kernel_rfl)) ?_
      clear HT_ HW_ hHeld
      have hs4 := HS3.out.set HI.out HB.out.1 HB.out.2.1 HKK.out.1 (Nat.le_refl _) (Nat.le_succ _) (wrap64 (2 - r))
      rw [HR2.out] at hs4
      rw [HR2.out]
      generalize w3.setCell ⟨b n i, k, none⟩ (Value.int .i64 (bit2 cb)) = w4 at hs4 ⊢
      have hv4 := upd_self (V := V') (n := n) (i := i) (j := k) (x := bit2 cb)
      generalize upd V' n i k (bit2 cb) = V4 at hs4 hv4
      have HS4 := Aside0.mk hs4
      have HV4 := Aside0.mk hv4
      clear hs4 hv4 HS3
      go_wp2
      go_loopg [7] (k + 2) (fun gg v7 w' => ∃ (m : Nat) (mz : Int) (V5 : Nat → Nat → Nat → Int) (c5 : Bool), v7 = .int .i64 mz ∧ Aside0 (mz = (m : Int)) ∧ Aside0 (i ≤ m ∧ m ≤ k) ∧ Aside0 (k + 1 ≤ gg + m) ∧ Aside0 (Sg w0 w1 X.length N b E V n i k (k + 1) w' V5) ∧ Aside0 (V5 n i k = bit2 c5) ∧ Aside0 (Told c5 (E n i k = true) (i ≠ k ∧ ∀ m', i ≤ m' → m' < m → ¬ (E n i m' = true ∧ E p m' k = true))))
      case atStart => exact ⟨i, (i : Int), V4, cb, rfl, ⟨rfl⟩, ⟨by have := HKK.out; omega⟩, ⟨by omega⟩, HS4, HV4, ⟨fun h => (HE.out k HKK.out.1 HKN.out).mpr (Or.inl (by have h2 := HCB.out; rw [h] at h2; have := of_decide_eq_true h2.symm; omega)), fun h => ⟨fun h3 => by have h2 := HCB.out; rw [h] at h2; exact of_decide_eq_false h2.symm h3.symm, fun m' a1 a2 => by omega⟩⟩⟩
      case round =>
        clear HS4 HV4
        obtain ⟨m, mz, V5, c5, rfl, ⟨rfl⟩, HMK, HG2, HSI, HV5, HNO⟩ := hrel
        cases gk with
        | zero => exact absurd HG2.out (by have := HMK.out; omega)
        | succ g2 =>
        have y3 := HSI.out.mem.get H3.out
        have y1 := HSI.out.mem.get HM1.out
        have y2 := HSI.out.mem.get HM2.out
        have yc := HSI.out.mem.cell HB.out.1 HB.out.2.1 HKN.out
        rw [HV5.out] at yc
        by_cases hmk : m < k
        · have d3 : decide ((m : Int) < (k : Int)) = true := decide_eq_true (by omega)
          have d4 : ((m : Int) < (k : Int)) = True := eq_true (by omega)
          have d4n : (m < k) = True := eq_true (by omega)
          cases c5
          · rw [show bit2 false = 2 from rfl] at yc
            have p5 : ((0 : Int) ≤ (m : Int)) = True := eq_true (by omega)
            have q5 : ((m : Int) < (N : Int)) = True := eq_true (by have := HKN.out; omega)
            have q5n : (m < N) = True := eq_true (by have := HKN.out; omega)
            have ym := HSI.out.mem.cell HB.out.1 HB.out.2.1 (show m < N by have := HKN.out; omega)
            rw [HSI.out.done m HMK.out.1 hmk] at ym
            have yz2 := HSI.out.mem.get H2.out
            have ya1 := HSI.out.mem.get HA1.out
            have ya3 := HSI.out.mem.get HA3.out
            rw [show ([(p : Int)] : List Int).length = 1 from rfl] at ya1
            have hcc := HKD.out m k _ _ (Nat.le_of_lt hmk) HKN.out (HSI.out.oks HB.out.2.2.1) HSI.out.mem
            have HCC := Aside0.mk hcc
            have hw : wrap64 ((m : Int) + 1) = ((m + 1 : Nat) : Int) := up1 (by have := HKN.out; have := HB.out; omega)
            have HW := Aside0.mk hw
            have HMK2 := Aside0.mk hmk
            have HMORE : Aside0 (¬ (E n i m = true ∧ E p m k = true) → Told false (E n i k = true) (i ≠ k ∧ ∀ m', i ≤ m' → m' < m + 1 → ¬ (E n i m' = true ∧ E p m' k = true))) := ⟨fun hh => ⟨fun h => (by cases h), fun _ => ⟨(HNO.out.f rfl).1, fun m' a1 a2 => by
              by_cases eq : m' = m
              · rw [eq]; exact hh
              · exact (HNO.out.f rfl).2 m' a1 (by omega)⟩⟩⟩
            have HYES : Aside0 (E n i m = true → E p m k = true → E n i k = true) := ⟨fun h1 h2 => (HE.out k HKK.out.1 HKN.out).mpr (Or.inr ⟨m, HMK.out.1, hmk, h1, h2⟩)⟩
            generalize E n i m = ra at ym HMORE HYES
            generalize E p m k = rb at HCC HMORE HYES
            clear hcc hw hmk
            cases ra
            · rw [show bit2 false = 2 from rfl] at ym
              go_wp2
              go_roundg g2
              case measure => omega
              case rel => exact ⟨m + 1, wrap64 ((m : Int) + 1), V5, false, rfl, HW, ⟨by have := HMK.out; have := HMK2.out; omega⟩, ⟨by have := HG2.out; omega⟩, HSI, HV5, ⟨HMORE.out (by simp)⟩⟩
            · rw [show bit2 true = 1 from rfl] at ym
              cases rb
              · go_wp2_with (go_at_call 77; (with_reducible refine HCC.out.mono ?_); rintro e w5 hp; obtain ⟨rfl, V5', hs5, hsame⟩ := HSI.out.child HB.out.2.2.1 hp; have HS5 := Aside0.mk hs5; have HSM := Aside0.mk hsame; have y0 := hs5.mem.get H3.out; have y1 := hs5.mem.get HM1.out; have y2 := hs5.mem.get HM2.out; have hc5 := hs5.mem.cell HB.out.1 HB.out.2.1 HKN.out; have hz5 := blk_frozen (hs5.mem.rows n i HB.out.1 HB.out.2.1) k; clear hp hs5 hsame)
                go_roundg g2
                case measure => omega
                case rel => exact ⟨m + 1, wrap64 ((m : Int) + 1), V5', false, rfl, HW, ⟨by have := HMK.out; have := HMK2.out; omega⟩, ⟨by have := HG2.out; omega⟩, HS5, ⟨by rw [HSM.out]; exact HV5.out⟩, ⟨HMORE.out (by simp)⟩⟩
              · go_wp2_with (go_at_call 77; (with_reducible refine HCC.out.mono ?_); rintro e w5 hp; obtain ⟨rfl, V5', hs5, hsame⟩ := HSI.out.child HB.out.2.2.1 hp; have HS5 := Aside0.mk hs5; have HSM := Aside0.mk hsame; have y0 := hs5.mem.get H3.out; have y1 := hs5.mem.get HM1.out; have y2 := hs5.mem.get HM2.out; have hc5 := hs5.mem.cell HB.out.1 HB.out.2.1 HKN.out; have hz5 := blk_frozen (hs5.mem.rows n i HB.out.1 HB.out.2.1) k; clear hp hs5 hsame)
                have hs6 := HS5.out.set HI.out HB.out.1 HB.out.2.1 HKK.out.1 (Nat.le_succ _) (Nat.le_refl _) 1
                have HS6 := Aside0.mk hs6
                go_roundg g2
                case measure => omega
                case rel => exact ⟨m + 1, wrap64 ((m : Int) + 1), upd V5' n i k 1, true, rfl, HW, ⟨by have := HMK.out; have := HMK2.out; omega⟩, ⟨by have := HG2.out; omega⟩, HS6, ⟨upd_self⟩, ⟨⟨fun _ => HYES.out (by first | exact rfl | exact trivial) (by first | exact rfl | exact trivial), fun h => by cases h⟩⟩⟩
          · rw [show bit2 true = 1 from rfl] at yc
            go_wp2
            go_roundg g1
            case measure => omega
            case rel => exact ⟨k + 1, wrap64 ((k : Int) + 1), V5, rfl, HWK, ⟨by have := HKK.out; have := HKN.out; omega⟩, ⟨by have := HG.out; omega⟩, ⟨HSI.out.next (by rw [HV5.out, HNO.out.t rfl])⟩⟩
        · have d3 : decide ((m : Int) < (k : Int)) = false := decide_eq_false (by omega)
          have d4 : ((m : Int) < (k : Int)) = False := eq_false (by omega)
          have d4n : (m < k) = False := eq_false (by omega)
          have HEK : Aside0 (E n i k = c5) := ⟨by
            cases c5
            · rw [← Bool.not_eq_true]
              intro ht
              rcases (HE.out k HKK.out.1 HKN.out).mp ht with h | ⟨m', a1, a2, a3, a4⟩
              · exact (HNO.out.f rfl).1 h
              · exact (HNO.out.f rfl).2 m' a1 (by omega) ⟨a3, a4⟩
            · exact HNO.out.t rfl⟩
          clear yc
          go_wp2
          go_roundg g1
          case measure => omega
          case rel => exact ⟨k + 1, wrap64 ((k : Int) + 1), V5, rfl, HWK, ⟨by have := HKK.out; have := HKN.out; omega⟩, ⟨by have := HG.out; omega⟩, ⟨HSI.out.next (by rw [HV5.out, HEK.out])⟩⟩
    · have d1 : decide ((k : Int) ≤ (s.size : Int)) = false := decide_eq_false (by have := HB.out; omega)
      have d2 : ((k : Int) ≤ (s.size : Int)) = False := eq_false (by have := HB.out; omega)
      have hkn2 : k = N := by have := HKK.out; omega
      subst hkn2
      go_wp2
      go_end0
      exact ⟨rfl, V', HS.out.post, HS.out.mem, HS.out.done⟩
set_option maxHeartbeats 4000000 in
set_option maxRecDepth 100000 in
theorem isStar (w0 w1 W : World) (gz : Nat) (s : ByteArray) (N : Nat) (X : List Rx) (C : List (List Int)) (b : Nat → Nat → Nat) (an aa am : Addr) (E : Nat → Nat → Nat → Bool) (V : Nat → Nat → Nat → Int) (lay : Lay w1 gz s N X C b an aa am) (n i j : Nat) (y : Rx) (hx : X[n]? = some (.star y)) (hi : i < N) (hij : i ≤ j) (hj : j < N) (hN : N ≤ 1000) (hT : X.length ≤ 1000) (hm : Ms w0 w1 W X.length N b V) (hv : V n i j = 0)
    (hf : Calls Try.prog 85 #[.pointer (some ⟨gz, 0, none⟩), .int .i64 n, .int .i64 i] W (fun e W' => e = .returned (.tuple #[]) ∧ ∃ V', Inv E V V' (n + 1) ∧ Ms w0 w1 W' X.length N b V' ∧ ∀ k, i ≤ k → k < N → V' n i k = bit2 (E n i k))) :
    Calls Try.prog 77 #[.pointer (some ⟨gz, 0, none⟩), .int .i64 n, .int .i64 i, .int .i64 j] W (PostS w0 w1 X.length N b E V (n + 1) (E n i j)) := by
  have hn : n < X.length := (List.getElem?_eq_some_iff.mp hx).1
  have HF := Aside0.mk hf
  obtain ⟨c1, z1⟩ := lay.z1
  obtain ⟨c3, z3⟩ := lay.z3
  obtain ⟨at_, ca, m1, m2⟩ := lay.mr n hn
  have HB : Aside0 (n < X.length ∧ i < N ∧ j < N ∧ i ≤ j) := ⟨hn, hi, hj, hij⟩
  have HZ := Aside0.mk z3
  have HM1 := Aside0.mk m1
  have HM2 := Aside0.mk (m2 i hi)
  have k0 := hm.get z3
  have k1 := hm.get m1
  have k2 := hm.get (m2 i hi)
  have k3 := hm.cell hn hi hj
  rw [hv] at k3
  have k4 := hm.get z1
  have k5 := hm.get (lay.nk n _ hx)
  rw [show kindOf (.star y) = 8 from rfl] at k5
  have p1 : ((0 : Int) ≤ (n : Int)) = True := eq_true (by omega)
  have q1 : ((n : Int) < (X.length : Int)) = True := eq_true (by omega)
  have q1n : (n < X.length) = True := eq_true (by omega)
  have p2 : ((0 : Int) ≤ (i : Int)) = True := eq_true (by omega)
  have q2 : ((i : Int) < (N : Int)) = True := eq_true (by omega)
  have q2n : (i < N) = True := eq_true (by omega)
  have p3 : ((0 : Int) ≤ (j : Int)) = True := eq_true (by omega)
  have q3 : ((j : Int) < (N : Int)) = True := eq_true (by omega)
  have q3n : (j < N) = True := eq_true (by omega)
  clear hv z1 z3 m1 m2 lay hm hx hf hn hi hj hij
  obtain ⟨res, hres⟩ : ∃ r, r = E n i j := ⟨_, rfl⟩
  have HE := Aside0.mk hres.symm
  rw [← hres]
  clear hres
  cases res
  · go_enter Try.func77, Try.ntmps77
    go_wp2_with (go_at_call 85; (with_reducible refine HF.out.mono ?_); rintro e w2 ⟨rfl, V2, hi2, hm2, hd2⟩; have HI2 := Aside0.mk hi2; have HMX := Aside0.mk hm2; have x0 := hm2.get HZ.out; have x1 := hm2.get HM1.out; have x2 := hm2.get HM2.out; have x3 := hm2.cell HB.out.1 HB.out.2.1 HB.out.2.2.1; rw [hd2 j HB.out.2.2.2 HB.out.2.2.1, HE.out, show bit2 false = 2 from rfl] at x3; clear hi2 hm2 hd2)
    go_ret
    exact ⟨rfl, _, HI2.out, HMX.out⟩
  · go_enter Try.func77, Try.ntmps77
    go_wp2_with (go_at_call 85; (with_reducible refine HF.out.mono ?_); rintro e w2 ⟨rfl, V2, hi2, hm2, hd2⟩; have HI2 := Aside0.mk hi2; have HMX := Aside0.mk hm2; have x0 := hm2.get HZ.out; have x1 := hm2.get HM1.out; have x2 := hm2.get HM2.out; have x3 := hm2.cell HB.out.1 HB.out.2.1 HB.out.2.2.1; rw [hd2 j HB.out.2.2.2 HB.out.2.2.1, HE.out, show bit2 true = 1 from rfl] at x3; clear hi2 hm2 hd2)
    go_ret
    exact ⟨rfl, _, HI2.out, HMX.out⟩
theorem isAll (w0 w1 : World) (gz : Nat) (s : ByteArray) (N : Nat) (X : List Rx) (C : List (List Int)) (b : Nat → Nat → Nat) (an aa am : Addr) (E : Nat → Nat → Nat → Bool) (lay : Lay w1 gz s N X C b an aa am) (hg : Good X C) (hNs : N = s.size + 1) (hs : s.size ≤ 900) (hT : X.length ≤ 1000) (hE : ∀ n x, X[n]? = some x → ∀ i j, E n i j = mt (bytesOf s) x i j) :
    ∀ q n, n < q → n < X.length → KidS w0 w1 gz X.length N b E n (n : Int) := by
  have hl : (bytesOf s).length = s.size := len_bytes s
  intro q
  induction q with
  | zero => intro n h; omega
  | succ q ih =>
    intro n hnq hn i j W V hij hj hok hm
    obtain ⟨x, hx⟩ : ∃ x, X[n]? = some x := ⟨_, List.getElem?_eq_getElem hn⟩
    obtain ⟨c, hc⟩ : ∃ c, C[n]? = some c := ⟨_, List.getElem?_eq_getElem (by rw [hg.1]; exact hn)⟩
    have hnd := hg.2 n x c hx hc
    have hex := hE n x hx
    have hok2 : OkV E V n := hok.less (by omega)
    rcases hok n i j (by omega) with hv | hv
    · have leaf : (x = .none ∨ x = .empty ∨ x = .any) → kindOf x ≠ 8 → Calls Try.prog 77 #[.pointer (some ⟨gz, 0, none⟩), .int .i64 n, .int .i64 i, .int .i64 j] W (PostS w0 w1 X.length N b E V (n + 1) (E n i j)) := fun h1 h2 =>
        isNew w0 w1 W gz s N X C b an aa am E V lay n i j x hx h2 (by omega) hj (by omega) hT hok2 hm hv (fun W2 hm2 => by rw [hex]; exact findLeafS w0 w1 W2 gz s N X C b an aa am E V lay n i j x c hx hc h1 hij (by omega) hs hT hok2 hm2)
      cases x with
      | none => exact leaf (Or.inl rfl) (by decide)
      | empty => exact leaf (Or.inr (Or.inl rfl)) (by decide)
      | any => exact leaf (Or.inr (Or.inr rfl)) (by decide)
      | letter l => exact isNew w0 w1 W gz s N X C b an aa am E V lay n i j _ hx (by show (3 : Int) ≠ 8; decide) (by omega) hj (by omega) hT hok2 hm hv (fun W2 hm2 => by rw [hex]; exact findLetterS w0 w1 W2 gz s N X C b an aa am E V lay n i j l c hx hc hij (by omega) hs hT hok2 hm2)
      | not y =>
        obtain ⟨p, rfl, hp, hy⟩ := hnd
        exact isNew w0 w1 W gz s N X C b an aa am E V lay n i j _ hx (by show (9 : Int) ≠ 8; decide) (by omega) hj (by omega) hT hok2 hm hv (fun W2 hm2 => by
          rw [hex, mt_not, ← hE p y hy]
          exact findNotS w0 w1 W2 gz s N X C b an aa am E V lay n i j p y hx hc hp hij hj hT hok2 hm2 (ih p (by omega) (by omega)))
      | or y z =>
        obtain ⟨p, q2, rfl, hp, hq, hy, hz⟩ := hnd
        exact isNew w0 w1 W gz s N X C b an aa am E V lay n i j _ hx (by show (6 : Int) ≠ 8; decide) (by omega) hj (by omega) hT hok2 hm hv (fun W2 hm2 =>
          findTwoS w0 w1 W2 gz s N X C b an aa am E V lay n i j p q2 _ y z hx (Or.inl ⟨rfl, rfl⟩) hc hp hq hij hj hT hok2 hm2 (ih p (by omega) (by omega)) (ih q2 (by omega) (by omega)) _ (fun _ => by rw [hex, mt_or, ← hE p y hy, ← hE q2 z hz]) (fun h => by cases h))
      | and y z =>
        obtain ⟨p, q2, rfl, hp, hq, hy, hz⟩ := hnd
        exact isNew w0 w1 W gz s N X C b an aa am E V lay n i j _ hx (by show (7 : Int) ≠ 8; decide) (by omega) hj (by omega) hT hok2 hm hv (fun W2 hm2 =>
          findTwoS w0 w1 W2 gz s N X C b an aa am E V lay n i j p q2 _ y z hx (Or.inr ⟨rfl, rfl⟩) hc hp hq hij hj hT hok2 hm2 (ih p (by omega) (by omega)) (ih q2 (by omega) (by omega)) _ (fun h => by cases h) (fun _ => by rw [hex, mt_and, ← hE p y hy, ← hE q2 z hz]))
      | cat y z =>
        obtain ⟨p, q2, rfl, hp, hq, hy, hz⟩ := hnd
        have hcat := mt_cat (l := bytesOf s) (x := y) (y := z) hij (by omega)
        exact isNew w0 w1 W gz s N X C b an aa am E V lay n i j _ hx (by show (5 : Int) ≠ 8; decide) (by omega) hj (by omega) hT hok2 hm hv (fun W2 hm2 =>
          findCatS w0 w1 W2 gz s N X C b an aa am E V lay n i j p q2 y z hx hc hp hq hij hj (by omega) hT hok2 hm2 (ih p (by omega) (by omega)) (ih q2 (by omega) (by omega)) _
            (fun k a1 a2 a3 a4 => by rw [hE p y hy] at a3; rw [hE q2 z hz] at a4; rw [hex]; exact hcat.mpr ⟨k, a1, a2, a3, a4⟩)
            (fun hh => by rw [hex, ← Bool.not_eq_true]; intro ht; obtain ⟨k, a1, a2, a3, a4⟩ := hcat.mp ht; exact hh k a1 a2 ⟨by rw [hE p y hy]; exact a3, by rw [hE q2 z hz]; exact a4⟩))
      | star y =>
        obtain ⟨p, rfl, hp, hy⟩ := hnd
        exact isStar w0 w1 W gz s N X C b an aa am E V lay n i j y hx (by omega) hij hj (by omega) hT hm hv
          (starFill w0 w1 W gz s N X C b an aa am E V lay n i p y hx hc hp (by omega) hNs (by omega) hT hok2 hm (ih p (by omega) (by omega)) (fun k a1 a2 => by
            rw [hex, mt_star_end a1 (by omega)]
            constructor
            · rintro (h | ⟨m, b1, b2, b3, b4⟩)
              · exact Or.inl h
              · exact Or.inr ⟨m, b1, b2, by rw [hex]; exact b3, by rw [hE p y hy]; exact b4⟩
            · rintro (h | ⟨m, b1, b2, b3, b4⟩)
              · exact Or.inl h
              · rw [hex] at b3; rw [hE p y hy] at b4; exact Or.inr ⟨m, b1, b2, b3, b4⟩))
    · exact isKnown w0 w1 W gz s N X C b an aa am E V lay n i j hn (by omega) hj (by omega) hT hm hv
end Go.Proofs.Ytldgkgdgcfllmaa.Rg
end
