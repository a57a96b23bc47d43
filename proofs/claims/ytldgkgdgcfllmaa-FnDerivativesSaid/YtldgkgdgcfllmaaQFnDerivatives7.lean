/- Texts of the proof of FnDerivatives, put together. No condition. -/
import Derived.Test.YtldgkgdgcfllmaaQFnDerivatives3
import Derived.Shelf.Abstract
import Derived.Lib.Walk
import Derived.Test.YtldgkgdgcfllmaaQFnDerivatives6
section
namespace Go.Proofs.Ytldgkgdgcfllmaa.P
open Go.RowKit Go.Proofs.YtldgkgdgcfllmaaW.PrintWords Go.Proofs.YtldgkgdgcfllmaaW.PrintLast Go.Proofs.YtldgkgdgcfllmaaW.PrintMore
attribute [local go_sem] max2_int min2_int max_two min_two max_three min_three max_four min_four
set_option linter.unusedVariables false
set_option linter.unusedSimpArgs false
def spec_l1Bit.f (a0 : Bool) : Option (Int) := if a0 = true then (some 1) else (some 0)
set_option maxHeartbeats 8000000 in
set_option maxRecDepth 100000 in
theorem spec_l1Bit.calls (a0 : Bool) (r : Int) (w : World) (h : spec_l1Bit.f a0 = some r) :
    Calls Try.prog 86 #[.bool a0] w fun e w' => e = .returned (.int .i64 r) ∧ Drawn0 w w' := by
  have H : (if a0 = true then (some 1) else (some 0)) = some r := h
  clear h
  by_cases c2 : a0 = true
  · subst c2
    have H1 : (some 1) = some r := by rw [if_pos rfl] at H; exact H
    clear H
    have H := H1
    clear H1
    obtain rfl := Option.some.inj H
    simp only [Option.some.injEq, Prod.mk.injEq] at H
    obtain ⟨rfl⟩ := H
    go_enter Try.func86, Try.ntmps86
    go_wp2
    go_ret
    exact ⟨by first | rfl | (simp; done) | (simp [*]; done), by repeat (first | exact Drawn0.refl _ | apply Drawn0.step)⟩
  · replace c2 := Bool.eq_false_iff.mpr c2
    subst c2
    have H1 : (some 0) = some r := by rw [if_neg (show ¬ (false = true) by decide)] at H; exact H
    clear H
    have H := H1
    clear H1
    obtain rfl := Option.some.inj H
    simp only [Option.some.injEq, Prod.mk.injEq] at H
    obtain ⟨rfl⟩ := H
    go_enter Try.func86, Try.ntmps86
    go_wp2
    go_ret
    exact ⟨by first | rfl | (simp; done) | (simp [*]; done), by repeat (first | exact Drawn0.refl _ | apply Drawn0.step)⟩
end Go.Proofs.Ytldgkgdgcfllmaa.P
end
section
namespace Go.Proofs.Ytldgkgdgcfllmaa.Rg
open Go.RowKit Go.Shelf Go.Proofs.Ytldgkgdgcfllmaa.P Go.Proofs.Ytldgkgdgcfllmaa.Pl Go.Proofs.YtldgkgdgcfllmaaW.PrintWords Go.Proofs.YtldgkgdgcfllmaaW.PrintLast Go.Proofs.YtldgkgdgcfllmaaW.PrintMore
set_option linter.unusedVariables false
set_option linter.unusedSimpArgs false
theorem upd_self {V : Nat → Nat → Nat → Int} {n i j : Nat} {x : Int} : upd V n i j x n i j = x := by unfold upd; rw [if_pos ⟨rfl, rfl, rfl⟩]
theorem upd_other {V : Nat → Nat → Nat → Int} {n i j n' i' j' : Nat} {x : Int} (h : ¬ (n' = n ∧ i' = i ∧ j' = j)) : upd V n i j x n' i' j' = V n' i' j' := by unfold upd; rw [if_neg h]
theorem Inv.put {E : Nat → Nat → Nat → Bool} {V V' : Nat → Nat → Nat → Int} {n i j : Nat} {r : Bool} (h : Inv E V V' n) (hr : E n i j = r) : Inv E V (upd V' n i j (bit2 r)) (n + 1) := fun n' i' j' => by
  by_cases e : n' = n ∧ i' = i ∧ j' = j
  · obtain ⟨rfl, rfl, rfl⟩ := e
    rw [upd_self, hr]
    exact Or.inr ⟨by omega, rfl⟩
  · rw [upd_other e]
    rcases h n' i' j' with e | ⟨a, e⟩
    · exact Or.inl e
    · exact Or.inr ⟨by omega, e⟩
theorem bit_t : spec_l1Bit.f true = some 1 := by unfold spec_l1Bit.f; simp
theorem bit_f : spec_l1Bit.f false = some 0 := by unfold spec_l1Bit.f; simp
theorem w64_2 : wrap64 2 = bit2 false := by show wrap64 2 = 2; unfold wrap64; omega
theorem w64_1 : wrap64 1 = bit2 true := by show wrap64 1 = 1; unfold wrap64; omega
def Tsi4 : Bool × List (List Nat × List Nat) := (true, [([], []), ([0], [0]), ([1], [1]), ([2], [2]), ([], []), ([3, 4], [3, 4]), ([5], [5]), ([], []), ([6, 7], [6, 7]), ([8], [8]), ([], []), ([], []), ([], []), ([], []), ([], []), ([11, 12, 13, 14], [11, 12, 13, 14]), ([15, 15], [15]), ([16], [16]), ([9, 10, 0, 1, 2, 3, 4, 5, 6, 7, 8, 9, 10, 11, 12, 13, 14, 15, 16, 17], [9, 10]), ([18, 17, 16, 0, 1, 2, 3, 4, 5, 6, 7, 8, 9, 10, 11, 12, 13, 14, 15, 16, 17], [17, 18])])
def Bsi4 : List Nat := [0, 1, 3, 7, 0, 31, 63, 0, 255, 511, 0, 0, 0, 0, 0, 30720, 63488, 129024, 262143, 524287]
theorem tabsi4 : rtab .any (opsOf Try.f77 4) = Tsi4 := by kernel_rfl
theorem bitssi4 : waitsOk Tsi4.2 Bsi4 = true := by kernel_rfl
set_option maxHeartbeats 4000000 in
set_option maxRecDepth 100000 in
theorem isNew (w0 w1 W : World) (gz : Nat) (s : ByteArray) (N : Nat) (X : List Rx) (C : List (List Int)) (b : Nat → Nat → Nat) (an aa am : Addr) (E : Nat → Nat → Nat → Bool) (V : Nat → Nat → Nat → Int) (lay : Lay w1 gz s N X C b an aa am) (n i j : Nat) (x : Rx) (hx : X[n]? = some x) (hk : kindOf x ≠ 8) (hi : i < N) (hj : j < N) (hN : N ≤ 1000) (hT : X.length ≤ 1000) (hok : OkV E V n) (hm : Ms w0 w1 W X.length N b V) (hv : V n i j = 0)
    (hf : ∀ W2, Ms w0 w1 W2 X.length N b V → FindAt w0 w1 W2 gz X.length N b E V n i j (E n i j)) :
    Calls Try.prog 77 #[.pointer (some ⟨gz, 0, none⟩), .int .i64 n, .int .i64 i, .int .i64 j] W (PostS w0 w1 X.length N b E V (n + 1) (E n i j)) := by
  have hn : n < X.length := (List.getElem?_eq_some_iff.mp hx).1
  have HF := am_ hf
  have HM := am_ (hm.below (below_drew1 (Below.refl _ _)))
  obtain ⟨c1, z1⟩ := lay.z1
  obtain ⟨c3, z3⟩ := lay.z3
  obtain ⟨at_, ca, m1, m2⟩ := lay.mr n hn
  have HI : Aside0 (∀ n' i' n'' i'', n' < X.length → i' < N → n'' < X.length → i'' < N → b n' i' = b n'' i'' → n' = n'' ∧ i' = i'') := ⟨lay.inj⟩
  have HB : Aside0 (n < X.length ∧ i < N ∧ j < N) := ⟨hn, hi, hj⟩
  have HZ := am_ z3
  have HM1 := am_ m1
  have HM2 := am_ (m2 i hi)
  have k0 := hm.get z3
  have k1 := hm.get m1
  have k2 := hm.get (m2 i hi)
  have k3 := hm.cell hn hi hj
  rw [hv] at k3
  have k4 := hm.get z1
  have k5 := hm.get (lay.nk n x hx)
  have p1 : ((0 : Int) ≤ (n : Int)) = True := eq_true (by omega)
  have q1 : ((n : Int) < (X.length : Int)) = True := eq_true (by omega)
  have q1n : (n < X.length) = True := eq_true (by omega)
  have p2 : ((0 : Int) ≤ (i : Int)) = True := eq_true (by omega)
  have q2 : ((i : Int) < (N : Int)) = True := eq_true (by omega)
  have q2n : (i < N) = True := eq_true (by omega)
  have p3 : ((0 : Int) ≤ (j : Int)) = True := eq_true (by omega)
  have q3 : ((j : Int) < (N : Int)) = True := eq_true (by omega)
  have q3n : (j < N) = True := eq_true (by omega)
  have r1 : (kindOf x = 8) = False := eq_false hk
  have r2 : (kindOf x == 8) = false := beq_eq_false_iff_ne.mpr hk
  have r3 : decide (kindOf x = 8) = false := decide_eq_false hk
  clear hv z1 z3 m1 m2 lay hm hx hf hok hn hi hj hk
  generalize kindOf x = kx at k5 r1 r2 r3
  obtain ⟨res, hres⟩ : ∃ r, r = E n i j := ⟨_, rfl⟩
  have HE := am_ hres.symm
  rw [← hres] at HF ⊢
  clear hres
  cases res
  · go_enter Try.func77, Try.ntmps77
    go_wp2
    refine start_ (n := 20) (S := (fun w' => w'.cell? ⟨gz, 3, none⟩ = some (.slice (some am) X.length c3) ∧ w'.cell? (am.add n) = some (.slice (some at_) N ca) ∧ w'.cell? (at_.add i) = some (.slice (some ⟨b n i, 0, none⟩) N N))) (ds := [19]) (bl 20 0) (by kernel_rfl) rfl rfl (⟨k0, k1, k2⟩) (fun hHeld => ?_); refine with_tabW tabsi4 bitssi4 (fun HT_ HW_ => ?_)
    clear k0 k1 k2 k3 k4 k5
    generalize World.drew W = Wd at HM hHeld ⊢
    refine ph_ 0 52 (bl 20 1) HT_ ?_
    refine ph_ 1 53 (bl 20 3) HT_ ?_
    refine ph_ 2 54 (bl 20 7) HT_ ?_
    refine ph_ 4 56 (bl 20 23) HT_ ?_
    refine ph_ 7 59 (bl 20 151) HT_ ?_
    refine ph_ 10 62 (bl 20 1175) HT_ ?_
    refine ph_ 11 63 (bl 20 3223) HT_ ?_
    refine ph_ 12 64 (bl 20 7319) HT_ ?_
    refine ph_ 13 65 (bl 20 15511) HT_ ?_
    refine ph_ 14 66 (bl 20 31895) HT_ ?_
    refine th_ 3 55 (bl 20 31903) HT_ HW_ hHeld ?_
    refine ph_ 5 57 (bl 20 31935) HT_ ?_
    refine th_ 6 58 (bl 20 31999) HT_ HW_ hHeld ?_
    refine ph_ 8 60 (bl 20 32255) HT_ ?_
    refine th_ 9 61 (bl 20 32767) HT_ HW_ hHeld ?_
    refine on_ 15 (some 67) (bl 20 65535) HT_ (fun K hK => ?_)
    refine goes_ Try.func87 (by kernel_rfl) rfl #[.pointer (some ⟨gz, 0, none⟩), .int .i64 n, .int .i64 i, .int .i64 j] (by rfl) rfl rfl (by (try simp only [List.map_toArray, List.map_cons, List.map_nil]); first | done | rfl) ?_
    with_reducible refine (HF.out _ HM.out).mono ?_
    rintro e w2 ⟨rfl, V2, hi2, hm2⟩
    refine ⟨_, rfl, ?_⟩
    have HI2 := am_ hi2
    refine hK.out _ _ (⟨hm2.get HZ.out, hm2.get HM1.out, hm2.get HM2.out⟩) (fun hHeld => ?_)
    clear hK K
    refine nm_ 67 ?_
    refine on_ 16 (some 68) (bl 20 131071) HT_ (fun K hK => ?_)
    refine goes_ Try.func86 (by kernel_rfl) rfl #[.bool _] (by rfl) rfl rfl (by (try simp only [List.map_toArray, List.map_cons, List.map_nil]); first | done | rfl) ?_
    with_reducible refine (spec_l1Bit.calls _ _ _ (by first | exact bit_t | exact bit_f)).mono ?_
    rintro e w3 ⟨rfl, hd⟩
    refine ⟨_, rfl, ?_⟩
    have hm3 := hm2.below (Drawn0.below hd)
    refine hK.out _ _ (⟨hm3.get HZ.out, hm3.get HM1.out, hm3.get HM2.out⟩) (fun hHeld => ?_)
    clear hK K
    refine nm_ 68 ?_
    have HMX := am_ hm3
    clear hd hi2 hm2 hm3
    refine ph_ 17 69 (bl 20 262143) HT_ ?_
    refine ph_ 18 70 (bl 20 524287) HT_ ?_
    have hc9 := HMX.out.cell HB.out.1 HB.out.2.1 HB.out.2.2
    have hz9 := blk_frozen (HMX.out.rows n i HB.out.1 HB.out.2.1) j
    refine last_ (i := 19) (N := none) (bl 20 1048575) rfl rfl (one_of HT_.out (by kernel_rfl)) (by decide) (fun K hK => ?_)
    refine skip_ (w1 := ?_) (by rfl) rfl ?_ ?_
    rotate_left
    · go_simp
      rfl
    refine hK.out _ _ ?_
    clear hK K hc9 hz9
    refine done_ (done_of HT_.out (by kernel_rfl)) ?_
    clear HT_ HW_ hHeld
    rw [w64_2]
    have HMP := am_ (HMX.out.put HI.out HB.out.1 HB.out.2.1 j (bit2 false))
    generalize w3.setCell ⟨b n i, j, none⟩ (Value.int .i64 (bit2 false)) = w4 at HMP ⊢
    have k0 := HMP.out.get HZ.out
    have k1 := HMP.out.get HM1.out
    have k2 := HMP.out.get HM2.out
    have k3 := HMP.out.cell HB.out.1 HB.out.2.1 HB.out.2.2
    rw [upd_self, show bit2 false = 2 from rfl] at k3
    go_wp2
    go_ret
    exact ⟨rfl, _, HI2.out.put HE.out, HMP.out⟩
  · go_enter Try.func77, Try.ntmps77
    go_wp2
    refine start_ (n := 20) (S := (fun w' => w'.cell? ⟨gz, 3, none⟩ = some (.slice (some am) X.length c3) ∧ w'.cell? (am.add n) = some (.slice (some at_) N ca) ∧ w'.cell? (at_.add i) = some (.slice (some ⟨b n i, 0, none⟩) N N))) (ds := [19]) (bl 20 0) (by kernel_rfl) rfl rfl (⟨k0, k1, k2⟩) (fun hHeld => ?_); refine with_tabW tabsi4 bitssi4 (fun HT_ HW_ => ?_)
    clear k0 k1 k2 k3 k4 k5
    generalize World.drew W = Wd at HM hHeld ⊢
    refine ph_ 0 52 (bl 20 1) HT_ ?_
    refine ph_ 1 53 (bl 20 3) HT_ ?_
    refine ph_ 2 54 (bl 20 7) HT_ ?_
    refine ph_ 4 56 (bl 20 23) HT_ ?_
    refine ph_ 7 59 (bl 20 151) HT_ ?_
    refine ph_ 10 62 (bl 20 1175) HT_ ?_
    refine ph_ 11 63 (bl 20 3223) HT_ ?_
    refine ph_ 12 64 (bl 20 7319) HT_ ?_
    refine ph_ 13 65 (bl 20 15511) HT_ ?_
    refine ph_ 14 66 (bl 20 31895) HT_ ?_
    refine th_ 3 55 (bl 20 31903) HT_ HW_ hHeld ?_
    refine ph_ 5 57 (bl 20 31935) HT_ ?_
    refine th_ 6 58 (bl 20 31999) HT_ HW_ hHeld ?_
    refine ph_ 8 60 (bl 20 32255) HT_ ?_
    refine th_ 9 61 (bl 20 32767) HT_ HW_ hHeld ?_
    refine on_ 15 (some 67) (bl 20 65535) HT_ (fun K hK => ?_)
    refine goes_ Try.func87 (by kernel_rfl) rfl #[.pointer (some ⟨gz, 0, none⟩), .int .i64 n, .int .i64 i, .int .i64 j] (by rfl) rfl rfl (by (try simp only [List.map_toArray, List.map_cons, List.map_nil]); first | done | rfl) ?_
    with_reducible refine (HF.out _ HM.out).mono ?_
    rintro e w2 ⟨rfl, V2, hi2, hm2⟩
    refine ⟨_, rfl, ?_⟩
    have HI2 := am_ hi2
    refine hK.out _ _ (⟨hm2.get HZ.out, hm2.get HM1.out, hm2.get HM2.out⟩) (fun hHeld => ?_)
    clear hK K
    refine nm_ 67 ?_
    refine on_ 16 (some 68) (bl 20 131071) HT_ (fun K hK => ?_)
    refine goes_ Try.func86 (by kernel_rfl) rfl #[.bool _] (by rfl) rfl rfl (by (try simp only [List.map_toArray, List.map_cons, List.map_nil]); first | done | rfl) ?_
    with_reducible refine (spec_l1Bit.calls _ _ _ (by first | exact bit_t | exact bit_f)).mono ?_
    rintro e w3 ⟨rfl, hd⟩
    refine ⟨_, rfl, ?_⟩
    have hm3 := hm2.below (Drawn0.below hd)
    refine hK.out _ _ (⟨hm3.get HZ.out, hm3.get HM1.out, hm3.get HM2.out⟩) (fun hHeld => ?_)
    clear hK K
    refine nm_ 68 ?_
    have HMX := am_ hm3
    clear hd hi2 hm2 hm3
    refine ph_ 17 69 (bl 20 262143) HT_ ?_
    refine ph_ 18 70 (bl 20 524287) HT_ ?_
    have hc9 := HMX.out.cell HB.out.1 HB.out.2.1 HB.out.2.2
    have hz9 := blk_frozen (HMX.out.rows n i HB.out.1 HB.out.2.1) j
    refine last_ (i := 19) (N := none) (bl 20 1048575) rfl rfl (one_of HT_.out (by kernel_rfl)) (by decide) (fun K hK => ?_)
    refine skip_ (w1 := ?_) (by rfl) rfl ?_ ?_
    rotate_left
    · go_simp
      rfl
    refine hK.out _ _ ?_
    clear hK K hc9 hz9
    refine done_ (done_of HT_.out (by kernel_rfl)) ?_
    clear HT_ HW_ hHeld
    rw [w64_1]
    have HMP := am_ (HMX.out.put HI.out HB.out.1 HB.out.2.1 j (bit2 true))
    generalize w3.setCell ⟨b n i, j, none⟩ (Value.int .i64 (bit2 true)) = w4 at HMP ⊢
    have k0 := HMP.out.get HZ.out
    have k1 := HMP.out.get HM1.out
    have k2 := HMP.out.get HM2.out
    have k3 := HMP.out.cell HB.out.1 HB.out.2.1 HB.out.2.2
    rw [upd_self, show bit2 true = 1 from rfl] at k3
    go_wp2
    go_ret
    exact ⟨rfl, _, HI2.out.put HE.out, HMP.out⟩
structure Sg (w0 w1 : World) (T N : Nat) (b : Nat → Nat → Nat) (E : Nat → Nat → Nat → Bool) (V : Nat → Nat → Nat → Int) (n i k top : Nat) (W : World) (V' : Nat → Nat → Nat → Int) : Prop where
  ok : OkV E V n
  inv : ∀ n' i' j, (n' = n ∧ i' = i ∧ i ≤ j ∧ j < top) ∨ V' n' i' j = V n' i' j ∨ (n' < n ∧ V' n' i' j = bit2 (E n' i' j))
  done : ∀ j, i ≤ j → j < k → V' n i j = bit2 (E n i j)
  mem : Ms w0 w1 W T N b V'
section
variable {w0 w1 W W' W2 : World} {T N n i p k : Nat} {b : Nat → Nat → Nat} {E : Nat → Nat → Nat → Bool} {V V' : Nat → Nat → Nat → Int} {r cb : Bool} {e : Ending}
theorem Sg.set (hinj : ∀ n i n' i', n < T → i < N → n' < T → i' < N → b n i = b n' i' → n = n' ∧ i = i') (hn : n < T) (hi : i < N) (hk : i ≤ k) {top : Nat} (ht : k ≤ top) (ht2 : top ≤ k + 1) (h : Sg w0 w1 T N b E V n i k top W V') (x : Int) : Sg w0 w1 T N b E V n i k (k + 1) (W.setCell ⟨b n i, k, none⟩ (.int .i64 x)) (upd V' n i k x) := by
  refine ⟨h.ok, fun n' i' j => ?_, fun j h1 h2 => ?_, h.mem.put hinj hn hi k x⟩
  · by_cases q : n' = n ∧ i' = i ∧ j = k
    · obtain ⟨rfl, rfl, rfl⟩ := q
      exact Or.inl ⟨rfl, rfl, hk, by omega⟩
    · rw [upd_other q]
      rcases h.inv n' i' j with ⟨a1, a2, a3, a4⟩ | a | a
      · exact Or.inl ⟨a1, a2, a3, by omega⟩
      · exact Or.inr (Or.inl a)
      · exact Or.inr (Or.inr a)
  · rw [upd_other (by omega)]
    exact h.done j h1 h2
theorem Sg.child {top : Nat} (h : Sg w0 w1 T N b E V n i k top W V') (hp : p < n) (g : PostS w0 w1 T N b E V' (p + 1) r e W2) : e = .returned (.bool r) ∧ ∃ V2, Sg w0 w1 T N b E V n i k top W2 V2 ∧ ∀ j, V2 n i j = V' n i j := by
  obtain ⟨he, V2, h1, h2⟩ := g
  have same : ∀ i' j, V2 n i' j = V' n i' j := fun i' j => by
    rcases h1 n i' j with a | ⟨a, _⟩
    · exact a
    · omega
  refine ⟨he, V2, ⟨h.ok, fun n' i' j => ?_, fun j a1 a2 => by rw [same]; exact h.done j a1 a2, h2⟩, fun j => same i j⟩
  rcases h1 n' i' j with a | ⟨a, a2⟩
  · rw [a]; exact h.inv n' i' j
  · exact Or.inr (Or.inr ⟨by omega, a2⟩)
theorem Sg.oks {top : Nat} (h : Sg w0 w1 T N b E V n i k top W V') (hp : p < n) : OkV E V' (p + 1) := fun n' i' j hn => by
  rcases h.inv n' i' j with ⟨a, _⟩ | a | ⟨_, a⟩
  · omega
  · rw [a]; exact h.ok n' i' j (by omega)
  · exact Or.inr a
theorem Sg.next (h : Sg w0 w1 T N b E V n i k (k + 1) W V') (hv : V' n i k = bit2 (E n i k)) : Sg w0 w1 T N b E V n i (k + 1) (k + 1) W V' := ⟨h.ok, h.inv, fun j h1 h2 => by
  by_cases q : j = k
  · rw [q]; exact hv
  · exact h.done j h1 (by omega), h.mem⟩
theorem Sg.below {top : Nat} (h : Sg w0 w1 T N b E V n i k top W V') (hb : Below W.heap.size W W2) : Sg w0 w1 T N b E V n i k top W2 V' := ⟨h.ok, h.inv, h.done, h.mem.below hb⟩
theorem Sg.post (h : Sg w0 w1 T N b E V n i k k W V') : Inv E V V' (n + 1) := fun n' i' j => by
  rcases h.inv n' i' j with ⟨rfl, rfl, a, a2⟩ | a | ⟨a, a2⟩
  · exact Or.inr ⟨by omega, h.done j a a2⟩
  · exact Or.inl a
  · exact Or.inr ⟨by omega, a2⟩
end
structure Told (c : Bool) (P Q : Prop) : Prop where
  t : c = true → P
  f : c = false → Q
def Tss3 : Bool × List (List Nat × List Nat) := (true, [([], []), ([0], [0]), ([1], [1]), ([2], [2]), ([], []), ([3, 4], [3, 4]), ([5], [5]), ([], []), ([6, 7], [6, 7]), ([8], [8]), ([], []), ([], []), ([], []), ([11, 12], [11, 12]), ([13], [13]), ([14], [14]), ([9, 10, 0, 1, 2, 3, 4, 5, 6, 7, 8, 9, 10, 11, 12, 13, 14, 15], [9, 10]), ([16, 15, 14, 0, 1, 2, 3, 4, 5, 6, 7, 8, 9, 10, 11, 12, 13, 14, 15], [15, 16])])
def Bss3 : List Nat := [0, 1, 3, 7, 0, 31, 63, 0, 255, 511, 0, 0, 0, 6144, 14336, 30720, 65535, 131071]
theorem tabss3 : rtab .any (opsOf Try.f85 3) = Tss3 := by kernel_rfl
theorem bitsss3 : waitsOk Tss3.2 Bss3 = true := by kernel_rfl
theorem bit_w (cb : Bool) : ∃ r, spec_l1Bit.f cb = some r ∧ wrap64 (2 - r) = bit2 cb := by
  cases cb
  · exact ⟨0, bit_f, by show wrap64 2 = 2; unfold wrap64; omega⟩
  · exact ⟨1, bit_t, by show wrap64 1 = 1; unfold wrap64; omega⟩
set_option maxHeartbeats 4000000 in
set_option maxRecDepth 100000 in
theorem starFill (w0 w1 W : World) (gz : Nat) (s : ByteArray) (N : Nat) (X : List Rx) (C : List (List Int)) (b : Nat → Nat → Nat) (an aa am : Addr) (E : Nat → Nat → Nat → Bool) (V : Nat → Nat → Nat → Int) (lay : Lay w1 gz s N X C b an aa am) (n i p : Nat) (y : Rx) (hx : X[n]? = some (.star y)) (hc : C[n]? = some [(p : Int)]) (hp : p < n) (hi : i < N) (hNs : N = s.size + 1) (hN : N ≤ 1000) (hT : X.length ≤ 1000) (hok : OkV E V n) (hm : Ms w0 w1 W X.length N b V) (hk : KidS w0 w1 gz X.length N b E p (p : Int))
    (hE : ∀ k, i ≤ k → k < N → (E n i k = true ↔ i = k ∨ ∃ m, i ≤ m ∧ m < k ∧ E n i m = true ∧ E p m k = true)) :
    Calls Try.prog 85 #[.pointer (some ⟨gz, 0, none⟩), .int .i64 n, .int .i64 i] W (fun e W' => e = .returned (.tuple #[]) ∧ ∃ V', Inv E V V' (n + 1) ∧ Ms w0 w1 W' X.length N b V' ∧ ∀ k, i ≤ k → k < N → V' n i k = bit2 (E n i k)) := by
  have HS : Aside0 (Sg w0 w1 X.length N b E V n i i i W V) := ⟨hok, fun _ _ _ => Or.inr (Or.inl rfl), fun j h1 h2 => by omega, hm⟩
  have hn : n < X.length := (List.getElem?_eq_some_iff.mp hx).1
  obtain ⟨c2, z2⟩ := lay.z2
  obtain ⟨c3, z3⟩ := lay.z3
  obtain ⟨at_, ca, m1, m2⟩ := lay.mr n hn
  obtain ⟨A, cc, a1, a2⟩ := lay.ak n _ hc
  obtain ⟨ad, rfl, a3⟩ := a2 0 _ rfl
  rw [Addr.add_zero'] at a3
  have HI : Aside0 (∀ n' i' n'' i'', n' < X.length → i' < N → n'' < X.length → i'' < N → b n' i' = b n'' i'' → n' = n'' ∧ i' = i'') := ⟨lay.inj⟩
  have HB : Aside0 (n < X.length ∧ i < N ∧ p < n ∧ N = s.size + 1 ∧ N ≤ 1000) := ⟨hn, hi, hp, hNs, hN⟩
  have H0 := am_ lay.zs
  have H3 := am_ z3
  have HM1 := am_ m1
  have HM2 := am_ (m2 i hi)
  have H2 := am_ z2
  have HA1 := am_ a1
  have HA3 := am_ a3
  have HKD := am_ hk
  have HE := am_ hE
  have p1 : ((0 : Int) ≤ (n : Int)) = True := eq_true (by omega)
  have q1 : ((n : Int) < (X.length : Int)) = True := eq_true (by omega)
  have q1n : (n < X.length) = True := eq_true (by omega)
  have p2 : ((0 : Int) ≤ (i : Int)) = True := eq_true (by omega)
  have q2 : ((i : Int) < (N : Int)) = True := eq_true (by omega)
  have q2n : (i < N) = True := eq_true (by omega)
  clear z2 z3 m1 m2 a1 a2 a3 lay hm hx hc hok hn hi hp hk hE hNs hN hT
  go_enter Try.func85, Try.ntmps85
  go_wp2
  go_loopg [6, 7] (N + 1) (fun gg v6 v7 w' => ∃ (k : Nat) (kz : Int) (V' : Nat → Nat → Nat → Int), v6 = .int .i64 kz ∧ Aside0 (kz = (k : Int)) ∧ Aside0 (i ≤ k ∧ k ≤ N) ∧ Aside0 (N + 1 ≤ gg + k) ∧ Aside0 (Sg w0 w1 X.length N b E V n i k k w' V'))
  case atStart => exact ⟨i, (i : Int), V, rfl, ⟨rfl⟩, ⟨by have := HB.out; omega⟩, ⟨by omega⟩, HS⟩
  case round =>
    clear HS
    obtain ⟨k, kz, V', rfl, ⟨rfl⟩, HKK, HG, HS⟩ := hrel
    cases gk with
    | zero => exact absurd HG.out (by have := HKK.out; omega)
    | succ g1 =>
    have x0 := HS.out.mem.get H0.out
    by_cases hkn : k < N
    · have HKN := am_ hkn
      have HWK : Aside0 (wrap64 ((k : Int) + 1) = ((k + 1 : Nat) : Int)) := ⟨up1 (by have := HB.out; omega)⟩
      have d1 : decide ((k : Int) ≤ (s.size : Int)) = true := decide_eq_true (by have := HB.out; omega)
      have d2 : ((k : Int) ≤ (s.size : Int)) = True := eq_true (by have := HB.out; omega)
      have p3 : ((0 : Int) ≤ (k : Int)) = True := eq_true (by omega)
      have q3 : ((k : Int) < (N : Int)) = True := eq_true (by omega)
      have q3n : (k < N) = True := eq_true (by omega)
      have x3 := HS.out.mem.get H3.out
      have x1 := HS.out.mem.get HM1.out
      have x2 := HS.out.mem.get HM2.out
      obtain ⟨cb, hcb⟩ : ∃ cb, cb = decide (k = i) := ⟨_, rfl⟩
      have e3 : decide ((k : Int) = (i : Int)) = cb := by rw [hcb]; exact decide_eq_decide.mpr (by omega)
      have e2 : ((k : Int) == (i : Int)) = cb := by rw [← e3]; rfl
      obtain ⟨r, hr1, hr2⟩ := bit_w cb
      have HR1 := am_ hr1
      have HR2 := am_ hr2
      have HCB := am_ hcb
      clear hcb hr1 hr2 hkn
      generalize hwz : wr = wz at HS x0 x1 x2 x3 ⊢
      go_wp2
      have HSB := am_ (HS.out.below (below_drew1 (Below.refl _ _)))
      refine start_ (n := 18) (S := (fun w' => w'.cell? ⟨gz, 3, none⟩ = some (.slice (some am) X.length c3) ∧ w'.cell? (am.add n) = some (.slice (some at_) N ca) ∧ w'.cell? (at_.add i) = some (.slice (some ⟨b n i, 0, none⟩) N N))) (ds := [17]) (bl 18 0) (by kernel_rfl) rfl rfl (⟨x3, x1, x2⟩) (fun hHeld => ?_); refine with_tabW tabss3 bitsss3 (fun HT_ HW_ => ?_)
      clear x0 x1 x2 x3 HS
      generalize World.drew wz = wd at HSB hHeld ⊢
      refine ph_ 0 18 (bl 18 1) HT_ ?_
      refine ph_ 1 19 (bl 18 3) HT_ ?_
      refine ph_ 2 20 (bl 18 7) HT_ ?_
      refine ph_ 4 22 (bl 18 23) HT_ ?_
      refine ph_ 7 25 (bl 18 151) HT_ ?_
      refine ph_ 10 28 (bl 18 1175) HT_ ?_
      refine ph_ 11 29 (bl 18 3223) HT_ ?_
      refine ph_ 12 30 (bl 18 7319) HT_ ?_
      refine ph_ 13 31 (bl 18 15511) HT_ ?_
      refine th_ 3 21 (bl 18 15519) HT_ HW_ hHeld ?_
      refine ph_ 5 23 (bl 18 15551) HT_ ?_
      refine th_ 6 24 (bl 18 15615) HT_ HW_ hHeld ?_
      refine ph_ 8 26 (bl 18 15871) HT_ ?_
      refine th_ 9 27 (bl 18 16383) HT_ HW_ hHeld ?_
      refine on_ 14 (some 32) (bl 18 32767) HT_ (fun K hK => ?_)
      refine goes_ Try.func86 (by kernel_rfl) rfl #[.bool cb] (by rfl) rfl rfl (by (try simp only [List.map_toArray, List.map_cons, List.map_nil]); first | done | rfl) ?_
      with_reducible refine (spec_l1Bit.calls cb r _ HR1.out).mono ?_
      rintro e w3 ⟨rfl, hd⟩
      refine ⟨_, rfl, ?_⟩
      have hs3 := HSB.out.below (Drawn0.below hd)
      have HS3 := am_ hs3
      refine hK.out _ _ (⟨hs3.mem.get H3.out, hs3.mem.get HM1.out, hs3.mem.get HM2.out⟩) (fun hHeld => ?_)
      clear hK K
      refine nm_ 32 ?_
      clear hd hs3 HSB
      refine ph_ 15 33 (bl 18 65535) HT_ ?_
      refine ph_ 16 34 (bl 18 131071) HT_ ?_
      have hc9 := HS3.out.mem.cell HB.out.1 HB.out.2.1 HKN.out
      have hz9 := blk_frozen (HS3.out.mem.rows n i HB.out.1 HB.out.2.1) k
      refine last_ (i := 17) (N := none) (bl 18 262143) rfl rfl (one_of HT_.out (by kernel_rfl)) (by decide) (fun K hK => ?_)
      refine skip_ (w1 := ?_) (by rfl) rfl ?_ ?_
      rotate_left
      · go_simp
        rfl
      refine hK.out _ _ ?_
      clear hK K hc9 hz9
      refine done_ (done_of HT_.out (by kernel_rfl)) ?_
      clear HT_ HW_ hHeld
      have hs4 := HS3.out.set HI.out HB.out.1 HB.out.2.1 HKK.out.1 (Nat.le_refl _) (Nat.le_succ _) (wrap64 (2 - r))
      rw [HR2.out] at hs4
      rw [HR2.out]
      generalize w3.setCell ⟨b n i, k, none⟩ (Value.int .i64 (bit2 cb)) = w4 at hs4 ⊢
      have hv4 := upd_self (V := V') (n := n) (i := i) (j := k) (x := bit2 cb)
      generalize upd V' n i k (bit2 cb) = V4 at hs4 hv4
      have HS4 := am_ hs4
      have HV4 := am_ hv4
      clear hs4 hv4 HS3
      go_wp2
      go_loopg [7] (k + 2) (fun gg v7 w' => ∃ (m : Nat) (mz : Int) (V5 : Nat → Nat → Nat → Int) (c5 : Bool), v7 = .int .i64 mz ∧ Aside0 (mz = (m : Int)) ∧ Aside0 (i ≤ m ∧ m ≤ k) ∧ Aside0 (k + 1 ≤ gg + m) ∧ Aside0 (Sg w0 w1 X.length N b E V n i k (k + 1) w' V5) ∧ Aside0 (V5 n i k = bit2 c5) ∧ Aside0 (Told c5 (E n i k = true) (i ≠ k ∧ ∀ m', i ≤ m' → m' < m → ¬ (E n i m' = true ∧ E p m' k = true))))
      case atStart => exact ⟨i, (i : Int), V4, cb, rfl, ⟨rfl⟩, ⟨by have := HKK.out; omega⟩, ⟨by omega⟩, HS4, HV4, ⟨fun h => (HE.out k HKK.out.1 HKN.out).mpr (Or.inl (by have h2 := HCB.out; rw [h] at h2; have := of_decide_eq_true h2.symm; omega)), fun h => ⟨fun h3 => by have h2 := HCB.out; rw [h] at h2; exact of_decide_eq_false h2.symm h3.symm, fun m' a1 a2 => by omega⟩⟩⟩
      case round =>
        clear HS4 HV4
        obtain ⟨m, mz, V5, c5, rfl, ⟨rfl⟩, HMK, HG2, HSI, HV5, HNO⟩ := hrel
        cases gk with
        | zero => exact absurd HG2.out (by have := HMK.out; omega)
        | succ g2 =>
        have y3 := HSI.out.mem.get H3.out
        have y1 := HSI.out.mem.get HM1.out
        have y2 := HSI.out.mem.get HM2.out
        have yc := HSI.out.mem.cell HB.out.1 HB.out.2.1 HKN.out
        rw [HV5.out] at yc
        by_cases hmk : m < k
        · have d3 : decide ((m : Int) < (k : Int)) = true := decide_eq_true (by omega)
          have d4 : ((m : Int) < (k : Int)) = True := eq_true (by omega)
          have d4n : (m < k) = True := eq_true (by omega)
          cases c5
          · rw [show bit2 false = 2 from rfl] at yc
            have p5 : ((0 : Int) ≤ (m : Int)) = True := eq_true (by omega)
            have q5 : ((m : Int) < (N : Int)) = True := eq_true (by have := HKN.out; omega)
            have q5n : (m < N) = True := eq_true (by have := HKN.out; omega)
            have ym := HSI.out.mem.cell HB.out.1 HB.out.2.1 (show m < N by have := HKN.out; omega)
            rw [HSI.out.done m HMK.out.1 hmk] at ym
            have yz2 := HSI.out.mem.get H2.out
            have ya1 := HSI.out.mem.get HA1.out
            have ya3 := HSI.out.mem.get HA3.out
            rw [show ([(p : Int)] : List Int).length = 1 from rfl] at ya1
            have hcc := HKD.out m k _ _ (Nat.le_of_lt hmk) HKN.out (HSI.out.oks HB.out.2.2.1) HSI.out.mem
            have HCC := am_ hcc
            have hw : wrap64 ((m : Int) + 1) = ((m + 1 : Nat) : Int) := up1 (by have := HKN.out; have := HB.out; omega)
            have HW := am_ hw
            have HMK2 := am_ hmk
            have HMORE : Aside0 (¬ (E n i m = true ∧ E p m k = true) → Told false (E n i k = true) (i ≠ k ∧ ∀ m', i ≤ m' → m' < m + 1 → ¬ (E n i m' = true ∧ E p m' k = true))) := ⟨fun hh => ⟨fun h => (by cases h), fun _ => ⟨(HNO.out.f rfl).1, fun m' a1 a2 => by
              by_cases eq : m' = m
              · rw [eq]; exact hh
              · exact (HNO.out.f rfl).2 m' a1 (by omega)⟩⟩⟩
            have HYES : Aside0 (E n i m = true → E p m k = true → E n i k = true) := ⟨fun h1 h2 => (HE.out k HKK.out.1 HKN.out).mpr (Or.inr ⟨m, HMK.out.1, hmk, h1, h2⟩)⟩
            generalize E n i m = ra at ym HMORE HYES
            generalize E p m k = rb at HCC HMORE HYES
            clear hcc hw hmk
            cases ra
            · rw [show bit2 false = 2 from rfl] at ym
              go_wp2
              go_roundg g2
              case measure => omega
              case rel => exact ⟨m + 1, wrap64 ((m : Int) + 1), V5, false, rfl, HW, ⟨by have := HMK.out; have := HMK2.out; omega⟩, ⟨by have := HG2.out; omega⟩, HSI, HV5, ⟨HMORE.out (by simp)⟩⟩
            · rw [show bit2 true = 1 from rfl] at ym
              cases rb
              · go_wp2_with (go_at_call 77; (with_reducible refine HCC.out.mono ?_); rintro e w5 hp; obtain ⟨rfl, V5', hs5, hsame⟩ := HSI.out.child HB.out.2.2.1 hp; have HS5 := am_ hs5; have HSM := am_ hsame; have y0 := hs5.mem.get H3.out; have y1 := hs5.mem.get HM1.out; have y2 := hs5.mem.get HM2.out; have hc5 := hs5.mem.cell HB.out.1 HB.out.2.1 HKN.out; have hz5 := blk_frozen (hs5.mem.rows n i HB.out.1 HB.out.2.1) k; clear hp hs5 hsame)
                go_roundg g2
                case measure => omega
                case rel => exact ⟨m + 1, wrap64 ((m : Int) + 1), V5', false, rfl, HW, ⟨by have := HMK.out; have := HMK2.out; omega⟩, ⟨by have := HG2.out; omega⟩, HS5, ⟨by rw [HSM.out]; exact HV5.out⟩, ⟨HMORE.out (by simp)⟩⟩
              · go_wp2_with (go_at_call 77; (with_reducible refine HCC.out.mono ?_); rintro e w5 hp; obtain ⟨rfl, V5', hs5, hsame⟩ := HSI.out.child HB.out.2.2.1 hp; have HS5 := am_ hs5; have HSM := am_ hsame; have y0 := hs5.mem.get H3.out; have y1 := hs5.mem.get HM1.out; have y2 := hs5.mem.get HM2.out; have hc5 := hs5.mem.cell HB.out.1 HB.out.2.1 HKN.out; have hz5 := blk_frozen (hs5.mem.rows n i HB.out.1 HB.out.2.1) k; clear hp hs5 hsame)
                have hs6 := HS5.out.set HI.out HB.out.1 HB.out.2.1 HKK.out.1 (Nat.le_succ _) (Nat.le_refl _) 1
                have HS6 := am_ hs6
                go_roundg g2
                case measure => omega
                case rel => exact ⟨m + 1, wrap64 ((m : Int) + 1), upd V5' n i k 1, true, rfl, HW, ⟨by have := HMK.out; have := HMK2.out; omega⟩, ⟨by have := HG2.out; omega⟩, HS6, ⟨upd_self⟩, ⟨⟨fun _ => HYES.out (by first | exact rfl | exact trivial) (by first | exact rfl | exact trivial), fun h => by cases h⟩⟩⟩
          · rw [show bit2 true = 1 from rfl] at yc
            go_wp2
            go_roundg g1
            case measure => omega
            case rel => exact ⟨k + 1, wrap64 ((k : Int) + 1), V5, rfl, HWK, ⟨by have := HKK.out; have := HKN.out; omega⟩, ⟨by have := HG.out; omega⟩, ⟨HSI.out.next (by rw [HV5.out, HNO.out.t rfl])⟩⟩
        · have d3 : decide ((m : Int) < (k : Int)) = false := decide_eq_false (by omega)
          have d4 : ((m : Int) < (k : Int)) = False := eq_false (by omega)
          have d4n : (m < k) = False := eq_false (by omega)
          have HEK : Aside0 (E n i k = c5) := ⟨by
            cases c5
            · rw [← Bool.not_eq_true]
              intro ht
              rcases (HE.out k HKK.out.1 HKN.out).mp ht with h | ⟨m', a1, a2, a3, a4⟩
              · exact (HNO.out.f rfl).1 h
              · exact (HNO.out.f rfl).2 m' a1 (by omega) ⟨a3, a4⟩
            · exact HNO.out.t rfl⟩
          clear yc
          go_wp2
          go_roundg g1
          case measure => omega
          case rel => exact ⟨k + 1, wrap64 ((k : Int) + 1), V5, rfl, HWK, ⟨by have := HKK.out; have := HKN.out; omega⟩, ⟨by have := HG.out; omega⟩, ⟨HSI.out.next (by rw [HV5.out, HEK.out])⟩⟩
    · have d1 : decide ((k : Int) ≤ (s.size : Int)) = false := decide_eq_false (by have := HB.out; omega)
      have d2 : ((k : Int) ≤ (s.size : Int)) = False := eq_false (by have := HB.out; omega)
      have hkn2 : k = N := by have := HKK.out; omega
      subst hkn2
      go_wp2
      go_end0
      exact ⟨rfl, V', HS.out.post, HS.out.mem, HS.out.done⟩
set_option maxHeartbeats 4000000 in
set_option maxRecDepth 100000 in
theorem isStar (w0 w1 W : World) (gz : Nat) (s : ByteArray) (N : Nat) (X : List Rx) (C : List (List Int)) (b : Nat → Nat → Nat) (an aa am : Addr) (E : Nat → Nat → Nat → Bool) (V : Nat → Nat → Nat → Int) (lay : Lay w1 gz s N X C b an aa am) (n i j : Nat) (y : Rx) (hx : X[n]? = some (.star y)) (hi : i < N) (hij : i ≤ j) (hj : j < N) (hN : N ≤ 1000) (hT : X.length ≤ 1000) (hm : Ms w0 w1 W X.length N b V) (hv : V n i j = 0)
    (hf : Calls Try.prog 85 #[.pointer (some ⟨gz, 0, none⟩), .int .i64 n, .int .i64 i] W (fun e W' => e = .returned (.tuple #[]) ∧ ∃ V', Inv E V V' (n + 1) ∧ Ms w0 w1 W' X.length N b V' ∧ ∀ k, i ≤ k → k < N → V' n i k = bit2 (E n i k))) :
    Calls Try.prog 77 #[.pointer (some ⟨gz, 0, none⟩), .int .i64 n, .int .i64 i, .int .i64 j] W (PostS w0 w1 X.length N b E V (n + 1) (E n i j)) := by
  have hn : n < X.length := (List.getElem?_eq_some_iff.mp hx).1
  have HF := am_ hf
  obtain ⟨c1, z1⟩ := lay.z1
  obtain ⟨c3, z3⟩ := lay.z3
  obtain ⟨at_, ca, m1, m2⟩ := lay.mr n hn
  have HB : Aside0 (n < X.length ∧ i < N ∧ j < N ∧ i ≤ j) := ⟨hn, hi, hj, hij⟩
  have HZ := am_ z3
  have HM1 := am_ m1
  have HM2 := am_ (m2 i hi)
  have k0 := hm.get z3
  have k1 := hm.get m1
  have k2 := hm.get (m2 i hi)
  have k3 := hm.cell hn hi hj
  rw [hv] at k3
  have k4 := hm.get z1
  have k5 := hm.get (lay.nk n _ hx)
  rw [show kindOf (.star y) = 8 from rfl] at k5
  have p1 : ((0 : Int) ≤ (n : Int)) = True := eq_true (by omega)
  have q1 : ((n : Int) < (X.length : Int)) = True := eq_true (by omega)
  have q1n : (n < X.length) = True := eq_true (by omega)
  have p2 : ((0 : Int) ≤ (i : Int)) = True := eq_true (by omega)
  have q2 : ((i : Int) < (N : Int)) = True := eq_true (by omega)
  have q2n : (i < N) = True := eq_true (by omega)
  have p3 : ((0 : Int) ≤ (j : Int)) = True := eq_true (by omega)
  have q3 : ((j : Int) < (N : Int)) = True := eq_true (by omega)
  have q3n : (j < N) = True := eq_true (by omega)
  clear hv z1 z3 m1 m2 lay hm hx hf hn hi hj hij
  obtain ⟨res, hres⟩ : ∃ r, r = E n i j := ⟨_, rfl⟩
  have HE := am_ hres.symm
  rw [← hres]
  clear hres
  cases res
  · go_enter Try.func77, Try.ntmps77
    go_wp2_with (go_at_call 85; (with_reducible refine HF.out.mono ?_); rintro e w2 ⟨rfl, V2, hi2, hm2, hd2⟩; have HI2 := am_ hi2; have HMX := am_ hm2; have x0 := hm2.get HZ.out; have x1 := hm2.get HM1.out; have x2 := hm2.get HM2.out; have x3 := hm2.cell HB.out.1 HB.out.2.1 HB.out.2.2.1; rw [hd2 j HB.out.2.2.2 HB.out.2.2.1, HE.out, show bit2 false = 2 from rfl] at x3; clear hi2 hm2 hd2)
    go_ret
    exact ⟨rfl, _, HI2.out, HMX.out⟩
  · go_enter Try.func77, Try.ntmps77
    go_wp2_with (go_at_call 85; (with_reducible refine HF.out.mono ?_); rintro e w2 ⟨rfl, V2, hi2, hm2, hd2⟩; have HI2 := am_ hi2; have HMX := am_ hm2; have x0 := hm2.get HZ.out; have x1 := hm2.get HM1.out; have x2 := hm2.get HM2.out; have x3 := hm2.cell HB.out.1 HB.out.2.1 HB.out.2.2.1; rw [hd2 j HB.out.2.2.2 HB.out.2.2.1, HE.out, show bit2 true = 1 from rfl] at x3; clear hi2 hm2 hd2)
    go_ret
    exact ⟨rfl, _, HI2.out, HMX.out⟩
theorem isAll (w0 w1 : World) (gz : Nat) (s : ByteArray) (N : Nat) (X : List Rx) (C : List (List Int)) (b : Nat → Nat → Nat) (an aa am : Addr) (E : Nat → Nat → Nat → Bool) (lay : Lay w1 gz s N X C b an aa am) (hg : Good X C) (hNs : N = s.size + 1) (hs : s.size ≤ 900) (hT : X.length ≤ 1000) (hE : ∀ n x, X[n]? = some x → ∀ i j, E n i j = mt (bytesOf s) x i j) :
    ∀ q n, n < q → n < X.length → KidS w0 w1 gz X.length N b E n (n : Int) := by
  have hl : (bytesOf s).length = s.size := len_bytes s
  intro q
  induction q with
  | zero => intro n h; omega
  | succ q ih =>
    intro n hnq hn i j W V hij hj hok hm
    obtain ⟨x, hx⟩ : ∃ x, X[n]? = some x := ⟨_, List.getElem?_eq_getElem hn⟩
    obtain ⟨c, hc⟩ : ∃ c, C[n]? = some c := ⟨_, List.getElem?_eq_getElem (by rw [hg.1]; exact hn)⟩
    have hnd := hg.2 n x c hx hc
    have hex := hE n x hx
    have hok2 : OkV E V n := hok.less (by omega)
    rcases hok n i j (by omega) with hv | hv
    · have leaf : (x = .none ∨ x = .empty ∨ x = .any) → kindOf x ≠ 8 → Calls Try.prog 77 #[.pointer (some ⟨gz, 0, none⟩), .int .i64 n, .int .i64 i, .int .i64 j] W (PostS w0 w1 X.length N b E V (n + 1) (E n i j)) := fun h1 h2 =>
        isNew w0 w1 W gz s N X C b an aa am E V lay n i j x hx h2 (by omega) hj (by omega) hT hok2 hm hv (fun W2 hm2 => by rw [hex]; exact findLeafS w0 w1 W2 gz s N X C b an aa am E V lay n i j x c hx hc h1 hij (by omega) hs hT hok2 hm2)
      cases x with
      | none => exact leaf (Or.inl rfl) (by decide)
      | empty => exact leaf (Or.inr (Or.inl rfl)) (by decide)
      | any => exact leaf (Or.inr (Or.inr rfl)) (by decide)
      | letter l => exact isNew w0 w1 W gz s N X C b an aa am E V lay n i j _ hx (by show (3 : Int) ≠ 8; decide) (by omega) hj (by omega) hT hok2 hm hv (fun W2 hm2 => by rw [hex]; exact findLetterS w0 w1 W2 gz s N X C b an aa am E V lay n i j l c hx hc hij (by omega) hs hT hok2 hm2)
      | not y =>
        obtain ⟨p, rfl, hp, hy⟩ := hnd
        exact isNew w0 w1 W gz s N X C b an aa am E V lay n i j _ hx (by show (9 : Int) ≠ 8; decide) (by omega) hj (by omega) hT hok2 hm hv (fun W2 hm2 => by
          rw [hex, mt_not, ← hE p y hy]
          exact findNotS w0 w1 W2 gz s N X C b an aa am E V lay n i j p y hx hc hp hij hj hT hok2 hm2 (ih p (by omega) (by omega)))
      | or y z =>
        obtain ⟨p, q2, rfl, hp, hq, hy, hz⟩ := hnd
        exact isNew w0 w1 W gz s N X C b an aa am E V lay n i j _ hx (by show (6 : Int) ≠ 8; decide) (by omega) hj (by omega) hT hok2 hm hv (fun W2 hm2 =>
          findTwoS w0 w1 W2 gz s N X C b an aa am E V lay n i j p q2 _ y z hx (Or.inl ⟨rfl, rfl⟩) hc hp hq hij hj hT hok2 hm2 (ih p (by omega) (by omega)) (ih q2 (by omega) (by omega)) _ (fun _ => by rw [hex, mt_or, ← hE p y hy, ← hE q2 z hz]) (fun h => by cases h))
      | and y z =>
        obtain ⟨p, q2, rfl, hp, hq, hy, hz⟩ := hnd
        exact isNew w0 w1 W gz s N X C b an aa am E V lay n i j _ hx (by show (7 : Int) ≠ 8; decide) (by omega) hj (by omega) hT hok2 hm hv (fun W2 hm2 =>
          findTwoS w0 w1 W2 gz s N X C b an aa am E V lay n i j p q2 _ y z hx (Or.inr ⟨rfl, rfl⟩) hc hp hq hij hj hT hok2 hm2 (ih p (by omega) (by omega)) (ih q2 (by omega) (by omega)) _ (fun h => by cases h) (fun _ => by rw [hex, mt_and, ← hE p y hy, ← hE q2 z hz]))
      | cat y z =>
        obtain ⟨p, q2, rfl, hp, hq, hy, hz⟩ := hnd
        have hcat := mt_cat (l := bytesOf s) (x := y) (y := z) hij (by omega)
        exact isNew w0 w1 W gz s N X C b an aa am E V lay n i j _ hx (by show (5 : Int) ≠ 8; decide) (by omega) hj (by omega) hT hok2 hm hv (fun W2 hm2 =>
          findCatS w0 w1 W2 gz s N X C b an aa am E V lay n i j p q2 y z hx hc hp hq hij hj (by omega) hT hok2 hm2 (ih p (by omega) (by omega)) (ih q2 (by omega) (by omega)) _
            (fun k a1 a2 a3 a4 => by rw [hE p y hy] at a3; rw [hE q2 z hz] at a4; rw [hex]; exact hcat.mpr ⟨k, a1, a2, a3, a4⟩)
            (fun hh => by rw [hex, ← Bool.not_eq_true]; intro ht; obtain ⟨k, a1, a2, a3, a4⟩ := hcat.mp ht; exact hh k a1 a2 ⟨by rw [hE p y hy]; exact a3, by rw [hE q2 z hz]; exact a4⟩))
      | star y =>
        obtain ⟨p, rfl, hp, hy⟩ := hnd
        exact isStar w0 w1 W gz s N X C b an aa am E V lay n i j y hx (by omega) hij hj (by omega) hT hm hv
          (starFill w0 w1 W gz s N X C b an aa am E V lay n i p y hx hc hp (by omega) hNs (by omega) hT hok2 hm (ih p (by omega) (by omega)) (fun k a1 a2 => by
            rw [hex, mt_star_end a1 (by omega)]
            constructor
            · rintro (h | ⟨m, b1, b2, b3, b4⟩)
              · exact Or.inl h
              · exact Or.inr ⟨m, b1, b2, by rw [hex]; exact b3, by rw [hE p y hy]; exact b4⟩
            · rintro (h | ⟨m, b1, b2, b3, b4⟩)
              · exact Or.inl h
              · rw [hex] at b3; rw [hE p y hy] at b4; exact Or.inr ⟨m, b1, b2, b3, b4⟩))
    · exact isKnown w0 w1 W gz s N X C b an aa am E V lay n i j hn (by omega) hj (by omega) hT hm hv
end Go.Proofs.Ytldgkgdgcfllmaa.Rg
end
section
namespace Go.Proofs.Ytldgkgdgcfllmaa.Rg
open Go.RowKit Go.Shelf Go.Proofs.Ytldgkgdgcfllmaa.P Go.Proofs.Ytldgkgdgcfllmaa.Pl Go.Proofs.YtldgkgdgcfllmaaW.PrintWords Go.Proofs.YtldgkgdgcfllmaaW.PrintLast Go.Proofs.YtldgkgdgcfllmaaW.PrintMore
set_option linter.unusedVariables false
set_option linter.unusedSimpArgs false
def sons : Rx → List Rx
  | .cat x y => [x, y]
  | .or x y => [x, y]
  | .and x y => [x, y]
  | .star x => [x]
  | .not x => [x]
  | _ => []
def pnl (ys : List Rx) : List Rx := ys.flatMap pn
def pcl : List Rx → Nat → List (List Int)
  | [], _ => []
  | y :: t, b => pcs y b ++ pcl t (b + sz y)
def nml : List Rx → Nat → List Int
  | [], _ => []
  | y :: t, b => ((b + sz y - 1 : Nat) : Int) :: nml t (b + sz y)
def szl : List Rx → Nat
  | [] => 0
  | y :: t => sz y + szl t
theorem pn_kids (x : Rx) : pn x = pnl (sons x) ++ [x] := by cases x <;> simp [pn, pnl, sons]
theorem pcs_kids (x : Rx) (b : Nat) : pcs x b = pcl (sons x) b ++ [nml (sons x) b] := by cases x <;> simp [pcs, pcl, nml, sons]
theorem sz_kids (x : Rx) : sz x = szl (sons x) + 1 := by cases x <;> simp only [sz, szl, sons] <;> omega
theorem pnl_len (ys : List Rx) : (pnl ys).length = szl ys := by
  induction ys with
  | nil => rfl
  | cons y t ih => simp only [pnl, szl, List.flatMap_cons, List.length_append, pn_len] at ih ⊢; rw [ih]
theorem pnl_snoc (ys : List Rx) (y : Rx) : pnl (ys ++ [y]) = pnl ys ++ pn y := by simp [pnl]
theorem pcl_snoc (ys : List Rx) (y : Rx) : ∀ b, pcl (ys ++ [y]) b = pcl ys b ++ pcs y (b + szl ys) := by
  induction ys with
  | nil => intro b; simp [pcl, szl]
  | cons z t ih => intro b; simp only [List.cons_append, pcl, ih, szl, List.append_assoc, Nat.add_assoc]
theorem nml_snoc (ys : List Rx) (y : Rx) : ∀ b, nml (ys ++ [y]) b = nml ys b ++ [((b + szl ys + sz y - 1 : Nat) : Int)] := by
  induction ys with
  | nil => intro b; simp [nml, szl]
  | cons z t ih => intro b; simp only [List.cons_append, nml, ih, szl, Nat.add_assoc]
theorem Ax.kids {r : Tr} {x : Rx} (h : Ax r x) : r.f0 = kindOf x ∧ (∀ c, x = .letter c → r.f1 = c) ∧ r.f2.length = (sons x).length ∧ ∀ (k : Nat) (y : Rx), (sons x)[k]? = some y → Ax (rd_T29 r.f2 (k : Int)) y := by
  cases h with
  | none l => exact ⟨rfl, fun c h => (by cases h), rfl, fun k y h => (by simp [sons] at h)⟩
  | empty l => exact ⟨rfl, fun c h => (by cases h), rfl, fun k y h => (by simp [sons] at h)⟩
  | any l => exact ⟨rfl, fun c h => (by cases h), rfl, fun k y h => (by simp [sons] at h)⟩
  | letter l => exact ⟨rfl, fun c h => (by cases h; rfl), rfl, fun k y h => (by simp [sons] at h)⟩
  | star l ha => exact ⟨rfl, fun c h => (by cases h), rfl, fun k y h => by
      match k, h with
      | 0, h => cases h; exact ha⟩
  | not l ha => exact ⟨rfl, fun c h => (by cases h), rfl, fun k y h => by
      match k, h with
      | 0, h => cases h; exact ha⟩
  | cat l ha hb => exact ⟨rfl, fun c h => (by cases h), rfl, fun k y h => by
      match k, h with
      | 0, h => cases h; exact ha
      | 1, h => cases h; exact hb⟩
  | or l ha hb => exact ⟨rfl, fun c h => (by cases h), rfl, fun k y h => by
      match k, h with
      | 0, h => cases h; exact ha
      | 1, h => cases h; exact hb⟩
  | and l ha hb => exact ⟨rfl, fun c h => (by cases h), rfl, fun k y h => by
      match k, h with
      | 0, h => cases h; exact ha
      | 1, h => cases h; exact hb⟩
structure Bd (w0 W : World) (gz : Nat) (s : ByteArray) (N : Nat) (X : List Rx) (C : List (List Int)) (T : Nat) (b : Nat → Nat → Nat) (vn va vm : Value) (NC AC MC : List Value) (ok : Nat → Prop) : Prop where
  box : W.heap[gz]? = some (.cells #[.string s, vn, va, vm] 83 (0, 0))
  og : ok gz ∧ w0.heap.size ≤ gz
  nod : W.ownsRow w0.heap.size 29 3 vn X.length NC
  arg : W.ownsRow w0.heap.size 96 1 va C.length AC
  mem : W.ownsRow w0.heap.size 80 1 vm T MC
  on : ∀ k, vn.ownBlock = some k → ok k
  oa : ∀ k, va.ownBlock = some k → ok k
  om : ∀ k, vm.ownBlock = some k → ok k
  nc : ∀ (n : Nat) (x : Rx), X[n]? = some x → NC[n * 3]? = some (.int .i64 (kindOf x)) ∧ ∀ c, x = .letter c → NC[n * 3 + 1]? = some (.string c)
  ac : ∀ (n : Nat) (c : List Int), C[n]? = some c → ∃ v, AC[n]? = some v ∧ W.ownsRow w0.heap.size 3 1 v c.length (nums .i64 c) ∧ ∀ k, v.ownBlock = some k → ok k ∧ ∀ n i, n < T → i < N → k ≠ b n i
  mc : ∀ n, n < T → ∃ t cc cur, MC[n]? = some (.slice (some ⟨t, 0, none⟩) N cc) ∧ W.heap[t]? = some (.cells cur 96 (0, 0)) ∧ (∀ i, i < N → cur[i]? = some (.slice (some ⟨b n i, 0, none⟩) N N)) ∧ ok t ∧ some t ≠ va.ownBlock
  rows : ∀ n i, n < T → i < N → W.heap[b n i]? = some (.cells (encf N (fun _ => 0)) 3 (0, 0)) ∧ ok (b n i) ∧ w0.heap.size ≤ b n i
  inj : ∀ n i n' i', n < T → i < N → n' < T → i' < N → b n i = b n' i' → n = n' ∧ i = i'
  bel : Below w0.heap.size w0 W
def Bdx (w0 W : World) (gz : Nat) (s : ByteArray) (N : Nat) (X : List Rx) (C : List (List Int)) (T : Nat) (ok : Nat → Prop) : Prop := ∃ b vn va vm NC AC MC, Bd w0 W gz s N X C T b vn va vm NC AC MC ok
section
variable {w0 W W' : World} {gz : Nat} {s : ByteArray} {N T : Nat} {X : List Rx} {C : List (List Int)} {b : Nat → Nat → Nat} {vn va vm : Value} {NC AC MC : List Value} {ok ok' : Nat → Prop}
theorem Bd.step (h : Bd w0 W gz s N X C T b vn va vm NC AC MC ok) (hm : ∀ k, ok k → k < W.heap.size → W'.heap[k]? = W.heap[k]?) (hb : Below w0.heap.size w0 W') : Bd w0 W' gz s N X C T b vn va vm NC AC MC (fun k => ok k ∧ k < W.heap.size) := by
  have mv : ∀ {e size n : Nat} {v : Value} {xs : List Value}, W.ownsRow w0.heap.size e size v n xs → (∀ k, v.ownBlock = some k → ok k) → W'.ownsRow w0.heap.size e size v n xs ∧ ∀ k, v.ownBlock = some k → ok k ∧ k < W.heap.size := fun ho hk =>
    ⟨own_move ho (fun k h2 => hm k (hk k h2) (own_lt ho k h2)), fun k h2 => ⟨hk k h2, own_lt ho k h2⟩⟩
  have mb : ∀ {k : Nat} {o : Obj}, W.heap[k]? = some o → ok k → W'.heap[k]? = some o ∧ ok k ∧ k < W.heap.size := fun ho hk => by
    have := blk_lt ho
    exact ⟨(hm _ hk this).trans ho, hk, this⟩
  refine ⟨(mb h.box h.og.1).1, ⟨(mb h.box h.og.1).2, h.og.2⟩, (mv h.nod h.on).1, (mv h.arg h.oa).1, (mv h.mem h.om).1, (mv h.nod h.on).2, (mv h.arg h.oa).2, (mv h.mem h.om).2, h.nc, fun n c hc => ?_, fun n hn => ?_, fun n i hn hi => ?_, h.inj, hb⟩
  · obtain ⟨v, h1, h2, h3⟩ := h.ac n c hc
    have := mv h2 (fun k hk => (h3 k hk).1)
    exact ⟨v, h1, this.1, fun k hk => ⟨this.2 k hk, (h3 k hk).2⟩⟩
  · obtain ⟨t, cc, cur, h1, h2, h3, h4, h5⟩ := h.mc n hn
    have := mb h2 h4
    exact ⟨t, cc, cur, h1, this.1, h3, this.2, h5⟩
  · obtain ⟨h1, h2, h3⟩ := h.rows n i hn hi
    have := mb h1 h2
    exact ⟨this.1, this.2, h3⟩
theorem Bd.mono (h : Bd w0 W gz s N X C T b vn va vm NC AC MC ok) (hk : ∀ k, ok k → ok' k) : Bd w0 W gz s N X C T b vn va vm NC AC MC ok' :=
  ⟨h.box, ⟨hk _ h.og.1, h.og.2⟩, h.nod, h.arg, h.mem, fun k e => hk _ (h.on k e), fun k e => hk _ (h.oa k e), fun k e => hk _ (h.om k e), h.nc, fun n c hc => by
    obtain ⟨v, h1, h2, h3⟩ := h.ac n c hc
    exact ⟨v, h1, h2, fun k e => ⟨hk _ (h3 k e).1, (h3 k e).2⟩⟩, fun n hn => by
    obtain ⟨t, cc, cur, h1, h2, h3, h4, h5⟩ := h.mc n hn
    exact ⟨t, cc, cur, h1, h2, h3, hk _ h4, h5⟩, fun n i hn hi => by
    obtain ⟨h1, h2, h3⟩ := h.rows n i hn hi
    exact ⟨h1, hk _ h2, h3⟩, h.inj, h.bel⟩
theorem Bd.below (h : Bd w0 W gz s N X C T b vn va vm NC AC MC ok) (hb : Below W.heap.size W W') : Bd w0 W' gz s N X C T b vn va vm NC AC MC (fun k => ok k ∧ k < W.heap.size) := h.step (fun k _ hk => hb.block k hk) (below_then h.bel h.bel.size hb)
theorem Bdx.step (h : Bdx w0 W gz s N X C T ok) (hm : ∀ k, ok k → k < W.heap.size → W'.heap[k]? = W.heap[k]?) (hb : Below w0.heap.size w0 W') : Bdx w0 W' gz s N X C T (fun k => ok k ∧ k < W.heap.size) := by
  obtain ⟨b, vn, va, vm, NC, AC, MC, h⟩ := h
  exact ⟨b, vn, va, vm, NC, AC, MC, h.step hm hb⟩
theorem Bdx.mono (h : Bdx w0 W gz s N X C T ok) (hk : ∀ k, ok k → ok' k) : Bdx w0 W gz s N X C T ok' := by
  obtain ⟨b, vn, va, vm, NC, AC, MC, h⟩ := h
  exact ⟨b, vn, va, vm, NC, AC, MC, h.mono hk⟩
theorem Bdx.bel (h : Bdx w0 W gz s N X C T ok) : Below w0.heap.size w0 W := by
  obtain ⟨b, vn, va, vm, NC, AC, MC, h⟩ := h
  exact h.bel
end
def PostA (w0 W : World) (gz : Nat) (s : ByteArray) (N : Nat) (X : List Rx) (C : List (List Int)) (ok : Nat → Prop) (y : Rx) (e : Ending) (W' : World) : Prop :=
  e = .returned (.int .i64 ((X.length + sz y - 1 : Nat) : Int)) ∧ Bdx w0 W' gz s N (X ++ pn y) (C ++ pcs y X.length) (X.length + sz y) (fun k => ok k ∨ W.heap.size ≤ k) ∧ (∀ k, k < W.heap.size → ¬ ok k → W'.heap[k]? = W.heap[k]?) ∧ W.heap.size ≤ W'.heap.size
structure P1 (w0 W0 W : World) (ok0 ok1 : Nat → Prop) (gz gb : Nat) (bx : Array Value) (s : ByteArray) (N : Nat) (X : List Rx) (C : List (List Int)) (v5 : Value) (a1 : List Int) : Prop where
  bd : Bdx w0 W gz s N X C X.length ok1
  row : W.ownsRow w0.heap.size 3 1 v5 a1.length (nums .i64 a1)
  rno : ∀ k, v5.ownBlock = some k → ¬ ok1 k ∧ k ≠ gb
  box : W.heap[gb]? = some (.cells bx 29 (0, 0))
  bno : ¬ ok1 gb
  fr : ∀ k, k < W0.heap.size → ¬ ok0 k → W.heap[k]? = W0.heap[k]?
  sub : ∀ k, ok1 k → ok0 k ∨ W0.heap.size ≤ k
  rge : ∀ k, v5.ownBlock = some k → W0.heap.size ≤ k
  sz : W0.heap.size ≤ W.heap.size
  gge : W0.heap.size ≤ gb
section
variable {w0 W0 W W' : World} {ok0 ok1 : Nat → Prop} {gz gb : Nat} {bx : Array Value} {s : ByteArray} {N : Nat} {X : List Rx} {C : List (List Int)} {v5 v' : Value} {a1 : List Int} {y : Rx} {e : Ending} {q : Int}
theorem P1.child (h : P1 w0 W0 W ok0 ok1 gz gb bx s N X C v5 a1) (p : PostA w0 W gz s N X C ok1 y e W') : e = .returned (.int .i64 ((X.length + Rg.sz y - 1 : Nat) : Int)) ∧ P1 w0 W0 W' ok0 (fun k => ok1 k ∨ W.heap.size ≤ k) gz gb bx s N (X ++ pn y) (C ++ pcs y X.length) v5 a1 := by
  obtain ⟨he, hb, hf, hs⟩ := p
  have lb := blk_lt h.box
  refine ⟨he, by rw [List.length_append, pn_len]; exact hb, own_move h.row (fun k hk => hf k (own_lt h.row k hk) (h.rno k hk).1), fun k hk => ⟨?_, (h.rno k hk).2⟩, (hf gb lb h.bno).trans h.box, ?_, fun k hk hn => ?_, fun k hk => ?_, h.rge, Nat.le_trans h.sz hs, h.gge⟩
  · rintro (a | a)
    · exact (h.rno k hk).1 a
    · have := own_lt h.row k hk; omega
  · rintro (a | a)
    · exact h.bno a
    · omega
  · refine (hf k (Nat.lt_of_lt_of_le hk h.sz) (fun a => ?_)).trans (h.fr k hk hn)
    rcases h.sub k a with a | a
    · exact hn a
    · omega
  · rcases hk with a | a
    · exact h.sub k a
    · exact Or.inr (Nat.le_trans h.sz a)
theorem P1.append (h : P1 w0 W0 W ok0 ok1 gz gb bx s N X C v5 a1) (ho : W'.ownsRow w0.heap.size 3 1 v' (a1.length + 1) (nums .i64 a1 ++ [.int .i64 q])) (hb : Below w0.heap.size w0 W') (hg : W.grownBy W' v5.ownBlock) (hat : v'.ownBlock = v5.ownBlock ∨ ∃ k, v'.ownBlock = some k ∧ W.heap.size ≤ k) :
    P1 w0 W0 W' ok0 (fun k => ok1 k ∧ k < W.heap.size) gz gb bx s N X C v' (a1 ++ [q]) := by
  have lb := blk_lt h.box
  refine ⟨h.bd.step (fun k hk hlt => hg.block k hlt (fun e => (h.rno k e.symm).1 hk)) hb, by rw [List.length_append, List.length_singleton, show nums .i64 (a1 ++ [q]) = nums .i64 a1 ++ [.int .i64 q] by simp [nums]]; exact ho, fun k hk => ?_, (hg.block gb lb (fun e => (h.rno gb e.symm).2 rfl)).trans h.box, fun a => h.bno a.1, fun k hk hn => ?_, fun k hk => h.sub k hk.1, fun k hk => ?_, Nat.le_trans h.sz hg.size, h.gge⟩
  · rcases hat with a | ⟨k2, a, a2⟩
    · rw [a] at hk; exact ⟨fun c => (h.rno k hk).1 c.1, (h.rno k hk).2⟩
    · rw [a] at hk; cases hk; exact ⟨fun c => by omega, by omega⟩
  · refine (hg.block k (Nat.lt_of_lt_of_le hk h.sz) (fun e => ?_)).trans (h.fr k hk hn)
    have := h.rge k e.symm
    omega
  · rcases hat with a | ⟨k2, a, a2⟩
    · rw [a] at hk; exact h.rge k hk
    · rw [a] at hk; cases hk; exact Nat.le_trans h.sz a2
theorem P1.below (h : P1 w0 W0 W ok0 ok1 gz gb bx s N X C v5 a1) (hb : Below W.heap.size W W') : P1 w0 W0 W' ok0 (fun k => ok1 k ∧ k < W.heap.size) gz gb bx s N X C v5 a1 := by
  have lb := blk_lt h.box
  have hbb := h.bd.bel
  exact ⟨h.bd.step (fun k _ hlt => hb.block k hlt) (below_then hbb hbb.size hb), own_move h.row (fun k hk => hb.block k (own_lt h.row k hk)), fun k hk => ⟨fun c => (h.rno k hk).1 c.1, (h.rno k hk).2⟩, (hb.block gb lb).trans h.box, fun a => h.bno a.1, fun k hk hn => (hb.block k (Nat.lt_of_lt_of_le hk h.sz)).trans (h.fr k hk hn), fun k hk => h.sub k hk.1, h.rge, Nat.le_trans h.sz hb.size, h.gge⟩
end
section
variable {w0 W0 W W' : World} {ok0 ok1 : Nat → Prop} {gz gb : Nat} {bx : Array Value} {s : ByteArray} {N : Nat} {X : List Rx} {C : List (List Int)} {v5 v7 v' : Value} {a1 : List Int} {m r : Nat} {g : Nat → Nat} {TC : List Value} {row : Option Nat}
theorem P1.other (h : P1 w0 W0 W ok0 ok1 gz gb bx s N X C v5 a1) (hg : W.grownBy W' row) (hrow : ∀ k, row = some k → ¬ ok1 k ∧ k ≠ gb ∧ some k ≠ v5.ownBlock ∧ W0.heap.size ≤ k) (hb : Below w0.heap.size w0 W') : P1 w0 W0 W' ok0 (fun k => ok1 k ∧ k < W.heap.size) gz gb bx s N X C v5 a1 := by
  have lb := blk_lt h.box
  refine ⟨h.bd.step (fun k hk hlt => hg.block k hlt (fun e => (hrow k e.symm).1 hk)) hb, own_move h.row (fun k hk => hg.block k (own_lt h.row k hk) (fun e => (hrow k e.symm).2.2.1 hk.symm)), fun k hk => ⟨fun c => (h.rno k hk).1 c.1, (h.rno k hk).2⟩, (hg.block gb lb (fun e => (hrow gb e.symm).2.1 rfl)).trans h.box, fun a => h.bno a.1, fun k hk hn => (hg.block k (Nat.lt_of_lt_of_le hk h.sz) (fun e => ?_)).trans (h.fr k hk hn), fun k hk => h.sub k hk.1, h.rge, Nat.le_trans h.sz hg.size, h.gge⟩
  have := (hrow k e.symm).2.2.2
  omega
structure P2 (w0 W0 W : World) (ok0 ok1 : Nat → Prop) (gz gb : Nat) (bx : Array Value) (s : ByteArray) (N : Nat) (X : List Rx) (C : List (List Int)) (v5 : Value) (a1 : List Int) (v7 : Value) (m : Nat) (g : Nat → Nat) (TC : List Value) : Prop where
  p1 : P1 w0 W0 W ok0 ok1 gz gb bx s N X C v5 a1
  tab : W.ownsRow w0.heap.size 96 1 v7 m TC
  tc : ∀ i, i < m → TC[i]? = some (.slice (some ⟨g i, 0, none⟩) N N)
  rows : ∀ i, i < m → W.heap[g i]? = some (.cells (encf N (fun _ => 0)) 3 (0, 0)) ∧ ¬ ok1 (g i) ∧ some (g i) ≠ v5.ownBlock ∧ g i ≠ gb ∧ W0.heap.size ≤ g i ∧ w0.heap.size ≤ g i
  inj : ∀ i j, i < m → j < m → g i = g j → i = j
  tno : ∀ k, v7.ownBlock = some k → ¬ ok1 k ∧ k ≠ gb ∧ some k ≠ v5.ownBlock ∧ W0.heap.size ≤ k
theorem P2.below (h : P2 w0 W0 W ok0 ok1 gz gb bx s N X C v5 a1 v7 m g TC) (hb : Below W.heap.size W W') : P2 w0 W0 W' ok0 (fun k => ok1 k ∧ k < W.heap.size) gz gb bx s N X C v5 a1 v7 m g TC :=
  ⟨h.p1.below hb, own_move h.tab (fun k hk => hb.block k (own_lt h.tab k hk)), h.tc, fun i hi => by
    obtain ⟨a, a2, a3, a4, a5, a6⟩ := h.rows i hi
    exact ⟨blk_below a hb, fun c => a2 c.1, a3, a4, a5, a6⟩, h.inj, fun k hk => by
    obtain ⟨a, a2, a3, a4⟩ := h.tno k hk
    exact ⟨fun c => a c.1, a2, a3, a4⟩⟩
theorem P2.append (h : P2 w0 W0 W ok0 ok1 gz gb bx s N X C v5 a1 v7 m g TC) (hr : W.heap[r]? = some (.cells (encf N (fun _ => 0)) 3 (0, 0))) (hrn : ¬ ok1 r ∧ some r ≠ v5.ownBlock ∧ r ≠ gb ∧ W0.heap.size ≤ r ∧ w0.heap.size ≤ r) (hrg : ∀ i, i < m → g i ≠ r)
    (ho : W'.ownsRow w0.heap.size 96 1 v' (m + 1) (TC ++ [.slice (some ⟨r, 0, none⟩) N N])) (hb : Below w0.heap.size w0 W') (hg : W.grownBy W' v7.ownBlock) (hat : v'.ownBlock = v7.ownBlock ∨ ∃ k, v'.ownBlock = some k ∧ W.heap.size ≤ k) :
    P2 w0 W0 W' ok0 (fun k => ok1 k ∧ k < W.heap.size) gz gb bx s N X C v5 a1 v' (m + 1) (fun i => if i = m then r else g i) (TC ++ [.slice (some ⟨r, 0, none⟩) N N]) := by
  have htl : TC.length = m := by have := h.tab.1; omega
  have keep : ∀ {k : Nat} {c : Array Value}, W.heap[k]? = some (.cells c 3 (0, 0)) → W'.heap[k]? = some (.cells c 3 (0, 0)) := fun hk => by
    refine (hg.block _ (blk_lt hk) (fun e => ?_)).trans hk
    obtain ⟨c2, h2⟩ := own_typed h.tab _ e.symm
    exact blk_ne h2 hk (by decide) rfl
  refine ⟨h.p1.other hg h.tno hb, ho, fun i hi => ?_, fun i hi => ?_, fun i j hi hj e => ?_, fun k hk => ?_⟩
  · by_cases q : i = m
    · subst q
      rw [List.getElem?_append_right (by omega), htl, Nat.sub_self, if_pos rfl]
      rfl
    · rw [List.getElem?_append_left (by omega), if_neg q]
      exact h.tc i (by omega)
  · by_cases q : i = m
    · rw [if_pos q]
      exact ⟨keep hr, fun c => hrn.1 c.1, hrn.2⟩
    · rw [if_neg q]
      obtain ⟨a, a2, a3⟩ := h.rows i (by omega)
      exact ⟨keep a, fun c => a2 c.1, a3⟩
  · by_cases q : i = m <;> by_cases q2 : j = m
    · omega
    · rw [if_pos q, if_neg q2] at e; exact absurd e.symm (hrg j (by omega))
    · rw [if_neg q, if_pos q2] at e; exact absurd e (hrg i (by omega))
    · rw [if_neg q, if_neg q2] at e; exact h.inj i j (by omega) (by omega) e
  · rcases hat with a | ⟨k2, a, a2⟩
    · rw [a] at hk
      obtain ⟨b1, b2, b3, b4⟩ := h.tno k hk
      exact ⟨fun c => b1 c.1, b2, b3, b4⟩
    · rw [a] at hk
      cases hk
      refine ⟨fun c => by omega, fun e => by have := blk_lt h.p1.box; omega, fun e => by have := own_lt h.p1.row _ e.symm; omega, Nat.le_trans h.p1.sz a2⟩
end
section
variable {w0 W W' : World} {gz : Nat} {s : ByteArray} {N T : Nat} {X : List Rx} {C : List (List Int)} {b : Nat → Nat → Nat} {vn va vm v1 : Value} {NC AC MC : List Value} {ok : Nat → Prop}
theorem own_type {w : World} {base n size : Nat} {e : TypeId} {v : Value} {xs : List Value} (h : w.ownsRow base e size v n xs) {k : Nat} {t : TypeId} {c : Array Value} (hk : w.heap[k]? = some (.cells c t (0, 0))) (hne : e ≠ t) : some k ≠ v.ownBlock := fun e2 => by
  obtain ⟨c2, h2⟩ := own_typed h k e2.symm
  exact blk_ne h2 hk hne rfl
theorem Bd.node (h : Bd w0 W gz s N X C T b vn va vm NC AC MC ok) {x : Rx} {f1 : ByteArray} {u2 : Value} (hx : ∀ c, x = .letter c → f1 = c)
    (hs : ∀ k, k < W.heap.size → some k ≠ vn.ownBlock → k ≠ gz → W'.heap[k]? = W.heap[k]?) (ho : W'.ownsRow w0.heap.size 29 3 v1 (X.length + 1) (NC ++ [.int .i64 (kindOf x), .string f1, u2]))
    (hbox : W'.heap[gz]? = some (.cells #[.string s, v1, va, vm] 83 (0, 0))) (hb : Below w0.heap.size w0 W') :
    Bd w0 W' gz s N (X ++ [x]) C T b v1 va vm (NC ++ [.int .i64 (kindOf x), .string f1, u2]) AC MC (fun k => ok k ∨ some k = v1.ownBlock) := by
  have hl : NC.length = X.length * 3 := h.nod.1
  have kb : ∀ {k : Nat} {t : TypeId} {c : Array Value}, W.heap[k]? = some (.cells c t (0, 0)) → 29 ≠ t → 83 ≠ t → W'.heap[k]? = some (.cells c t (0, 0)) := fun hk n1 n2 =>
    (hs _ (blk_lt hk) (own_type h.nod hk n1) (fun e => by subst e; exact blk_ne h.box hk n2 rfl)).trans hk
  have kr : ∀ {e size n : Nat} {v : Value} {xs : List Value}, W.ownsRow w0.heap.size e size v n xs → 29 ≠ e → 83 ≠ e → W'.ownsRow w0.heap.size e size v n xs := fun hr n1 n2 => own_move hr (fun k hk => by
    obtain ⟨c, hc⟩ := own_typed hr k hk
    exact (kb hc n1 n2).trans hc.symm)
  refine ⟨hbox, ⟨Or.inl h.og.1, h.og.2⟩, by rw [List.length_append]; exact ho, kr h.arg (by decide) (by decide), kr h.mem (by decide) (by decide), fun k hk => Or.inr hk.symm, fun k hk => Or.inl (h.oa k hk), fun k hk => Or.inl (h.om k hk), fun n y hy => ?_, fun n c hc => ?_, fun n hn => ?_, fun n i hn hi => ?_, h.inj, hb⟩
  · by_cases hn : n < X.length
    · rw [List.getElem?_append_left hn] at hy
      obtain ⟨a, a2⟩ := h.nc n y hy
      rw [List.getElem?_append_left (by omega)]
      exact ⟨a, fun c hc => by rw [List.getElem?_append_left (by omega)]; exact a2 c hc⟩
    · have hn2 := (List.getElem?_eq_some_iff.mp hy).1
      simp only [List.length_append, List.length_cons, List.length_nil] at hn2
      have e : n = X.length := by omega
      subst e
      rw [List.getElem?_append_right (Nat.le_refl _), Nat.sub_self] at hy
      cases hy
      rw [List.getElem?_append_right (by omega), List.getElem?_append_right (by omega), hl, Nat.sub_self, show X.length * 3 + 1 - X.length * 3 = 1 by omega]
      exact ⟨rfl, fun c hc => by rw [← hx c hc]; rfl⟩
  · obtain ⟨v, a1, a2, a3⟩ := h.ac n c hc
    exact ⟨v, a1, kr a2 (by decide) (by decide), fun k hk => ⟨Or.inl (a3 k hk).1, (a3 k hk).2⟩⟩
  · obtain ⟨t, cc, cur, a1, a2, a3, a4, a5⟩ := h.mc n hn
    exact ⟨t, cc, cur, a1, kb a2 (by decide) (by decide), a3, Or.inl a4, a5⟩
  · obtain ⟨a1, a2, a3⟩ := h.rows n i hn hi
    exact ⟨kb a1 (by decide) (by decide), Or.inl a2, a3⟩
theorem Bd.args (h : Bd w0 W gz s N X C T b vn va vm NC AC MC ok) {c1 : List Int} {v5 : Value}
    (hs : ∀ k, k < W.heap.size → some k ≠ va.ownBlock → k ≠ gz → W'.heap[k]? = W.heap[k]?) (hat : v1.ownBlock = va.ownBlock ∨ ∃ k, v1.ownBlock = some k ∧ W.heap.size ≤ k) (ho : W'.ownsRow w0.heap.size 96 1 v1 (C.length + 1) (AC ++ [v5]))
    (h5 : W.ownsRow w0.heap.size 3 1 v5 c1.length (nums .i64 c1)) (h5n : ∀ k, v5.ownBlock = some k → ¬ ok k)
    (hbox : W'.heap[gz]? = some (.cells #[.string s, vn, v1, vm] 83 (0, 0))) (hb : Below w0.heap.size w0 W') :
    Bd w0 W' gz s N X (C ++ [c1]) T b vn v1 vm NC (AC ++ [v5]) MC (fun k => ok k ∨ some k = v1.ownBlock ∨ some k = v5.ownBlock) := by
  have hl : AC.length = C.length := by have := h.arg.1; omega
  have kb : ∀ {k : Nat} {t : TypeId} {c : Array Value}, W.heap[k]? = some (.cells c t (0, 0)) → some k ≠ va.ownBlock → 83 ≠ t → W'.heap[k]? = some (.cells c t (0, 0)) := fun hk n1 n2 =>
    (hs _ (blk_lt hk) n1 (fun e => by subst e; exact blk_ne h.box hk n2 rfl)).trans hk
  have kr : ∀ {e size n : Nat} {v : Value} {xs : List Value}, W.ownsRow w0.heap.size e size v n xs → 96 ≠ e → 83 ≠ e → W'.ownsRow w0.heap.size e size v n xs := fun hr n1 n2 => own_move hr (fun k hk => by
    obtain ⟨c, hc⟩ := own_typed hr k hk
    exact (kb hc (own_type h.arg hc n1) n2).trans hc.symm)
  refine ⟨hbox, ⟨Or.inl h.og.1, h.og.2⟩, kr h.nod (by decide) (by decide), by rw [List.length_append]; exact ho, kr h.mem (by decide) (by decide), fun k hk => Or.inl (h.on k hk), fun k hk => Or.inr (Or.inl hk.symm), fun k hk => Or.inl (h.om k hk), h.nc, fun n c hc => ?_, fun n hn => ?_, fun n i hn hi => ?_, h.inj, hb⟩
  · by_cases hn : n < C.length
    · rw [List.getElem?_append_left hn] at hc
      obtain ⟨v, a1, a2, a3⟩ := h.ac n c hc
      exact ⟨v, by rw [List.getElem?_append_left (by omega)]; exact a1, kr a2 (by decide) (by decide), fun k hk => ⟨Or.inl (a3 k hk).1, (a3 k hk).2⟩⟩
    · have hn2 := (List.getElem?_eq_some_iff.mp hc).1
      simp only [List.length_append, List.length_cons, List.length_nil] at hn2
      have e : n = C.length := by omega
      subst e
      rw [List.getElem?_append_right (Nat.le_refl _), Nat.sub_self] at hc
      cases hc
      exact ⟨v5, by rw [List.getElem?_append_right (by omega), hl, Nat.sub_self]; rfl, kr h5 (by decide) (by decide), fun k hk => ⟨Or.inr (Or.inr hk.symm), fun n i hn hi e => h5n k hk (by rw [e]; exact (h.rows n i hn hi).2.1)⟩⟩
  · obtain ⟨t, cc, cur, a1, a2, a3, a4, a5⟩ := h.mc n hn
    refine ⟨t, cc, cur, a1, kb a2 a5 (by decide), a3, Or.inl a4, fun e => ?_⟩
    rcases hat with q | ⟨k, q, q2⟩
    · rw [q] at e; exact a5 e
    · rw [q] at e; cases e; have := blk_lt a2; omega
  · obtain ⟨a1, a2, a3⟩ := h.rows n i hn hi
    exact ⟨kb a1 (own_type h.arg a1 (by decide)) (by decide), Or.inl a2, a3⟩
theorem Bd.memo (h : Bd w0 W gz s N X C T b vn va vm NC AC MC ok) {t7 c7 : Nat} {g : Nat → Nat} {TC : List Value} {b' : Nat}
    (hs : ∀ k, k < W.heap.size → some k ≠ vm.ownBlock → k ≠ gz → W'.heap[k]? = W.heap[k]?) (ho : W'.ownsRow w0.heap.size 80 1 v1 (T + 1) (MC ++ [.slice (some ⟨t7, 0, none⟩) N c7]))
    (h7 : W.ownsRow b' 96 1 (.slice (some ⟨t7, 0, none⟩) N c7) N TC) (h7n : ¬ ok t7) (htc : ∀ i, i < N → TC[i]? = some (.slice (some ⟨g i, 0, none⟩) N N))
    (hr : ∀ i, i < N → W.heap[g i]? = some (.cells (encf N (fun _ => 0)) 3 (0, 0)) ∧ ¬ ok (g i) ∧ w0.heap.size ≤ g i) (hgi : ∀ i j, i < N → j < N → g i = g j → i = j)
    (hbox : W'.heap[gz]? = some (.cells #[.string s, vn, va, v1] 83 (0, 0))) (hb : Below w0.heap.size w0 W') :
    Bd w0 W' gz s N X C (T + 1) (fun n i => if n = T then g i else b n i) vn va v1 NC AC (MC ++ [.slice (some ⟨t7, 0, none⟩) N c7]) (fun k => ok k ∨ some k = v1.ownBlock ∨ k = t7 ∨ ∃ i, i < N ∧ k = g i) := by
  have hl : MC.length = T := by have := h.mem.1; omega
  have kb : ∀ {k : Nat} {t : TypeId} {c : Array Value}, W.heap[k]? = some (.cells c t (0, 0)) → 80 ≠ t → 83 ≠ t → W'.heap[k]? = some (.cells c t (0, 0)) := fun hk n1 n2 =>
    (hs _ (blk_lt hk) (own_type h.mem hk n1) (fun e => by subst e; exact blk_ne h.box hk n2 rfl)).trans hk
  have kr : ∀ {e size n : Nat} {v : Value} {xs : List Value}, W.ownsRow w0.heap.size e size v n xs → 80 ≠ e → 83 ≠ e → W'.ownsRow w0.heap.size e size v n xs := fun hr n1 n2 => own_move hr (fun k hk => by
    obtain ⟨c, hc⟩ := own_typed hr k hk
    exact (kb hc n1 n2).trans hc.symm)
  refine ⟨hbox, ⟨Or.inl h.og.1, h.og.2⟩, kr h.nod (by decide) (by decide), kr h.arg (by decide) (by decide), ho, fun k hk => Or.inl (h.on k hk), fun k hk => Or.inl (h.oa k hk), fun k hk => Or.inr (Or.inl hk.symm), h.nc, fun n c hc => ?_, fun n hn => ?_, fun n i hn hi => ?_, fun n i n' i' hn hi hn' hi' e => ?_, hb⟩
  · obtain ⟨v, a1, a2, a3⟩ := h.ac n c hc
    refine ⟨v, a1, kr a2 (by decide) (by decide), fun k hk => ⟨Or.inl (a3 k hk).1, fun n i hn hi => ?_⟩⟩
    by_cases q : n = T
    · rw [if_pos q]; intro e; exact (hr i hi).2.1 (by rw [← e]; exact (a3 k hk).1)
    · rw [if_neg q]; exact (a3 k hk).2 n i (by omega) hi
  · by_cases q : n = T
    · subst q
      obtain ⟨_, hx⟩ := h7
      rcases hx with ⟨hx, _⟩ | ⟨g', cap, cur, hx, _, hh, _, _, _, ht⟩
      · cases hx
      · injection hx with hx _ _
        injection hx with hx
        injection hx with hx
        subst hx
        refine ⟨t7, c7, cur, by rw [List.getElem?_append_right (by omega), hl, Nat.sub_self]; rfl, kb hh (by decide) (by decide), fun i hi => ?_, Or.inr (Or.inr (Or.inl rfl)), fun e => h7n (h.oa _ e.symm)⟩
        have h2 := htc i hi
        rw [← ht, List.getElem?_take_of_lt (by omega), Array.getElem?_toList] at h2
        rw [if_pos rfl]
        exact h2
    · obtain ⟨t, cc, cur, a1, a2, a3, a4, a5⟩ := h.mc n (by omega)
      exact ⟨t, cc, cur, by rw [List.getElem?_append_left (by omega)]; exact a1, kb a2 (by decide) (by decide), fun i hi => by rw [if_neg q]; exact a3 i hi, Or.inl a4, a5⟩
  · by_cases q : n = T
    · rw [if_pos q]
      obtain ⟨a1, a2, a3⟩ := hr i hi
      exact ⟨kb a1 (by decide) (by decide), Or.inr (Or.inr (Or.inr ⟨i, hi, rfl⟩)), a3⟩
    · rw [if_neg q]
      obtain ⟨a1, a2, a3⟩ := h.rows n i (by omega) hi
      exact ⟨kb a1 (by decide) (by decide), Or.inl a2, a3⟩
  · by_cases q : n = T <;> by_cases q2 : n' = T
    · rw [if_pos q, if_pos q2] at e; exact ⟨by omega, hgi i i' hi hi' e⟩
    · rw [if_pos q, if_neg q2] at e; exact absurd (by rw [e]; exact (h.rows n' i' (by omega) hi').2.1) (hr i hi).2.1
    · rw [if_neg q, if_pos q2] at e; exact absurd (by rw [← e]; exact (h.rows n i (by omega) hi).2.1) (hr i' hi').2.1
    · rw [if_neg q, if_neg q2] at e; exact h.inj n i n' i' (by omega) hi (by omega) hi' e
end
theorem own_some {w : World} {base n size : Nat} {e : TypeId} {v : Value} {xs : List Value} (h : w.ownsRow base e size v n xs) (hn : 0 < n) : ∃ g cap c, v = .slice (some ⟨g, 0, none⟩) n cap ∧ w.heap[g]? = some (.cells c e (0, 0)) ∧ ∀ j u, xs[j]? = some u → w.cell? ⟨g, j, none⟩ = some u := by
  rcases h.2 with ⟨_, h2⟩ | ⟨g, cap, cur, rfl, _, hg, _⟩
  · omega
  · refine ⟨g, cap, cur, rfl, hg, fun j u hj => ?_⟩
    have hl := (List.getElem?_eq_some_iff.mp hj).1
    rw [World.ownsRow.cellAt h j (by rw [← h.1]; exact hl)]
    exact hj
theorem Bd.lay {w0 W : World} {gz : Nat} {s : ByteArray} {N : Nat} {X : List Rx} {C : List (List Int)} {b : Nat → Nat → Nat} {vn va vm : Value} {NC AC MC : List Value} {ok : Nat → Prop} (h : Bd w0 W gz s N X C X.length b vn va vm NC AC MC ok) (hC : C.length = X.length) (hX : 0 < X.length) : ∃ an aa am, Lay W gz s N X C b an aa am ∧ Ms w0 W W X.length N b (fun _ _ _ => 0) := by
  obtain ⟨gn, cn, xn, rfl, n1, n2⟩ := own_some h.nod hX
  obtain ⟨ga, ca, xa, rfl, a1, a2⟩ := own_some h.arg (by omega)
  obtain ⟨gm, cm, xm, rfl, m1, m2⟩ := own_some h.mem hX
  have far : ∀ {k : Nat} {t : TypeId} {c : Array Value}, W.heap[k]? = some (.cells c t (0, 0)) → t ≠ 3 → ∀ n i, n < X.length → i < N → k ≠ b n i := fun hk ht n i hn hi => blk_ne hk (h.rows n i hn hi).1 ht
  have zf := far h.box (by decide)
  refine ⟨⟨gn, 0, none⟩, ⟨ga, 0, none⟩, ⟨gm, 0, none⟩, ⟨h.inj, ⟨(blk_cell h.box 0).trans rfl, zf⟩, ⟨cn, (blk_cell h.box 1).trans rfl, zf⟩, ⟨ca, by rw [← hC]; exact (blk_cell h.box 2).trans rfl, zf⟩, ⟨cm, (blk_cell h.box 3).trans rfl, zf⟩, fun n x hx => ?_, fun n c hx => ?_, fun n c hc => ?_, fun n hn => ?_⟩, ?_⟩
  · rw [add_at, Nat.zero_add]
    exact ⟨n2 _ _ (h.nc n x hx).1, far n1 (by decide)⟩
  · rw [add_at, Nat.zero_add]
    exact ⟨n2 _ _ ((h.nc n _ hx).2 c rfl), far n1 (by decide)⟩
  · obtain ⟨v, h1, h2, h3⟩ := h.ac n c hc
    obtain ⟨A, cc, rfl⟩ := own_slice h2
    refine ⟨A, cc, ?_, fun k q hq => ?_⟩
    · rw [add_at, Nat.zero_add]
      exact ⟨a2 _ _ h1, far a1 (by decide)⟩
    · have hk := (List.getElem?_eq_some_iff.mp hq).1
      obtain ⟨g, cap, xx, hv, g1, g2⟩ := own_some h2 (by omega)
      injection hv with hv _ _
      subst hv
      refine ⟨⟨g, 0, none⟩, rfl, ?_⟩
      rw [add_at, Nat.zero_add]
      exact ⟨g2 k _ (by unfold nums; rw [List.getElem?_map, hq]; rfl), (h3 g (by simp [Value.ownBlock])).2⟩
  · obtain ⟨t, cc, cur, h1, h2, h3, _⟩ := h.mc n hn
    refine ⟨⟨t, 0, none⟩, cc, ?_, fun i hi => ?_⟩
    · rw [add_at, Nat.zero_add]
      exact ⟨m2 _ _ h1, far m1 (by decide)⟩
    · rw [add_at, Nat.zero_add]
      exact ⟨(blk_cell h2 i).trans (h3 i hi), far h2 (by decide)⟩
  · exact ⟨Kept.refl _ _, fun n i hn hi => (h.rows n i hn hi).1, h.bel, fun n i hn hi => (h.rows n i hn hi).2.2⟩
end Go.Proofs.Ytldgkgdgcfllmaa.Rg
end
