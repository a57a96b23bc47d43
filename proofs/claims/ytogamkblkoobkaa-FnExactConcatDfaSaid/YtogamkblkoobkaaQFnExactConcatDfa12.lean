/- Texts of the proof of FnExactConcatDfa, put together. No condition. -/
import Derived.Test.YtogamkblkoobkaaQFnExactConcatDfa2
import Derived.Shelf.Abstract
import Derived.Lib.Walk
import Derived.Test.YtogamkblkoobkaaQFnExactConcatDfa3
import Derived.Test.YtogamkblkoobkaaQFnExactConcatDfa11
import Derived.Test.YtogamkblkoobkaaQFnExactConcatDfa10
section
namespace Go.Proofs.Ytogamkblkoobkaa.Wk
open Go.RowKit Go.Shelf Go.Proofs.Ytogamkblkoobkaa.P Go.Proofs.Ytogamkblkoobkaa.Pl Go.Proofs.Ytogamkblkoobkaa.Mp Go.Proofs.Ytogamkblkoobkaa.Can Go.Proofs.YtogamkblkoobkaaW.PrintWords Go.Proofs.YtogamkblkoobkaaW.PrintLast Go.Proofs.YtogamkblkoobkaaW.PrintMore
set_option linter.unusedVariables false
set_option linter.unusedSimpArgs false
def T14Ct : Bool × List (List Nat × List Nat) := (true, [([], []), ([], []), ([1], [1]), ([0, 2, 2], [0, 2]), ([3], [3])])
def B14Ct : List Nat := [0, 0, 2, 7, 15]
theorem tab14Ct : rtab .any (opsOf Try.f6 14) = T14Ct := by kernel_rfl
theorem bits14Ct : waitsOk T14Ct.2 B14Ct = true := by kernel_rfl
def T16Ct : Bool × List (List Nat × List Nat) := (true, [([], []), ([], []), ([1], [1]), ([0, 2, 2], [0, 2]), ([3], [3])])
def B16Ct : List Nat := [0, 0, 2, 7, 15]
theorem tab16Ct : rtab .any (opsOf Try.f6 16) = T16Ct := by kernel_rfl
theorem bits16Ct : waitsOk T16Ct.2 B16Ct = true := by kernel_rfl
def T8Ct : Bool × List (List Nat × List Nat) := (true, [([], []), ([0], [0]), ([], []), ([2, 1], [2]), ([1, 3, 3], [1, 3]), ([4], [4]), ([5], [5]), ([5], [5]), ([], []), ([8, 6, 4, 0, 1, 2, 3, 4, 5, 6, 8], [6, 8]), ([7, 9, 0, 1, 2, 3, 4, 5, 6, 7, 8, 9], [7])])
def B8Ct : List Nat := [0, 1, 0, 7, 15, 31, 63, 63, 0, 383, 1023]
theorem tab8Ct : rtab .any (opsOf Try.f6 8) = T8Ct := by kernel_rfl
theorem bits8Ct : waitsOk T8Ct.2 B8Ct = true := by kernel_rfl
def T31Ct : Bool × List (List Nat × List Nat) := (true, [([], []), ([0], [0]), ([], []), ([2, 1], [2]), ([1, 3, 3], [1, 3]), ([4], [4]), ([5], [5]), ([5], [5]), ([], []), ([8, 6, 4, 0, 1, 2, 3, 4, 5, 6, 8], [6, 8]), ([7, 9, 0, 1, 2, 3, 4, 5, 6, 7, 8, 9], [7])])
def B31Ct : List Nat := [0, 1, 0, 7, 15, 31, 63, 63, 0, 383, 1023]
theorem tab31Ct : rtab .any (opsOf Try.f6 31) = T31Ct := by kernel_rfl
theorem bits31Ct : waitsOk T31Ct.2 B31Ct = true := by kernel_rfl
set_option maxRecDepth 100000 in
set_option maxHeartbeats 16000000 in
theorem lawCt (A0 : Option Addr) (c0 : Nat) (l0 : List Bool) (A1 : Option Addr) (c1 : Nat) (l1 : List (List Int)) (A2 : Option Addr) (c2 : Nat) (l2 : List Bool) (A3 : Option Addr) (c3 : Nat) (l3 : List (List Int)) (w : World) (hr0 : Kd.C Kd.bool w A0 l0.length l0) (hc0 : l0.length ≤ c0) (hr1 : Kd.C (Kd.slice 3 (Kd.int .i64)) w A1 l1.length l1) (hc1 : l1.length ≤ c1) (hr2 : Kd.C Kd.bool w A2 l2.length l2) (hc2 : l2.length ≤ c2) (hr3 : Kd.C (Kd.slice 3 (Kd.int .i64)) w A3 l3.length l3) (hc3 : l3.length ≤ c3)
    (hb0 : l0.length ≤ 9223372036854775807) (hb1 : l1.length ≤ 9223372036854775807) (hx1 : ∀ x ∈ l1, x.length ≤ 9223372036854775807) (hb2 : l2.length ≤ 9223372036854775807) (hb3 : l3.length ≤ 9223372036854775807) (hx3 : ∀ x ∈ l3, x.length ≤ 9223372036854775807) :
    Calls Try.prog 6 #[.agg #[.slice A0 l0.length c0, .slice A1 l1.length c1], .agg #[.slice A2 l2.length c2, .slice A3 l3.length c3]] w fun e w' => e = .returned (.bool true) ∧ Below w.heap.size w w' := by
  have hu25 := Try.underlying25
  have hu28 := Try.underlying27
  have HB_ := am_ (Below.refl w.heap.size w)
  have HR0 := am_ hr0
  have HC0 := am_ hc0
  have HR1 := am_ hr1
  have HC1 := am_ hc1
  have HR2 := am_ hr2
  have HC2 := am_ hc2
  have HR3 := am_ hr3
  have HC3 := am_ hc3
  have BA0 : Aside0 ((w.alloc (Obj.cells #[.slice A0 l0.length c0, .slice A1 l1.length c1] 25)).heap[w.heap.size]? = some (.cells #[.slice A0 l0.length c0, .slice A1 l1.length c1] 25 (0, 0))) := ⟨by have h_ := blk_new w (Obj.cells #[.slice A0 l0.length c0, .slice A1 l1.length c1] 25); simpa using h_⟩
  have HB_ := am_ (below_alloc HB_.out (Obj.cells #[.slice A0 l0.length c0, .slice A1 l1.length c1] 25))
  have BA1 : Aside0 (((w.alloc (Obj.cells #[.slice A0 l0.length c0, .slice A1 l1.length c1] 25)).alloc (Obj.cells #[.slice A2 l2.length c2, .slice A3 l3.length c3] 25)).heap[w.heap.size + 1]? = some (.cells #[.slice A2 l2.length c2, .slice A3 l3.length c3] 25 (0, 0))) := ⟨by have h_ := blk_new (w.alloc (Obj.cells #[.slice A0 l0.length c0, .slice A1 l1.length c1] 25)) (Obj.cells #[.slice A2 l2.length c2, .slice A3 l3.length c3] 25); simpa using h_⟩
  have BA0 := am_ (blk_alloc BA0.out (Obj.cells #[.slice A2 l2.length c2, .slice A3 l3.length c3] 25))
  have HB_ := am_ (below_alloc HB_.out (Obj.cells #[.slice A2 l2.length c2, .slice A3 l3.length c3] 25))
  obtain ⟨r0, hrz0, _, hle0, hsz0⟩ := szDfa l0 l1 hb0 hb1 hx1 1048576 (by omega) (by omega)
  obtain ⟨kz0, hkz0⟩ := hrz0.rounds
  have HKZ0 := am_ hkz0
  have HSZ0 := am_ hsz0
  clear hrz0 hkz0 hsz0 hr0 hc0 hr1 hc1 hr2 hc2 hr3 hc3 hb0 hb1 hx1
  go_enter Try.func6, Try.ntmps6
  by_cases hneg : r0 < 0
  · have d1 : decide (r0 < 0) = true := decide_eq_true hneg
    have p1 : (r0 < 0) = True := eq_true hneg
    clear hneg
    go_wp2_with (first
      | ((with_reducible refine gate_callee (f := 12) rfl ?_); refine goesL_ (some 19) rfl rfl Try.func12 (by kernel_rfl) rfl #[.agg #[.slice A0 l0.length c0, .slice A1 l1.length c1], .int .i64 1048576] rfl (by (try simp only [List.map_toArray, List.map_cons, List.map_nil]); first | done | rfl) ?_; (with_reducible refine (laws_szDfa.calls kz0 _ _ l0 _ _ l1 1048576 r0 _ ?s1 HC0.out ?s2 HC1.out HKZ0.out).mono ?_); (case s1 => exact Kd.C_below HR0.out HB_.out); (case s2 => exact Kd.C_below HR1.out HB_.out); rintro e w2 ⟨rfl, hb⟩; (try clear aa); (try clear ab); (try clear ad); (try clear ae); replace HB_ := bt_ HB_ hb; replace BA0 := kb_ BA0 hb; replace BA1 := kb_ BA1 hb; clear hb; have aa := ck_ (v := (.slice A0 l0.length c0)) BA0 0 rfl; have ab := ck_ (v := (.slice A1 l1.length c1)) BA0 1 rfl; have ad := ck_ (v := (.slice A2 l2.length c2)) BA1 0 rfl; have ae := ck_ (v := (.slice A3 l3.length c3)) BA1 1 rfl; refine ⟨_, rfl, ?_⟩))
    go_ret
    exact ⟨rfl, HB_.out⟩
  · obtain ⟨r1, hrz1, _, hle1, hsz1⟩ := szDfa l2 l3 hb2 hb3 hx3 r0 (by omega) hle0
    obtain ⟨kz1, hkz1⟩ := hrz1.rounds
    have HKZ1 := am_ hkz1
    have HSZ1 := am_ hsz1
    clear hrz1 hkz1 hsz1 hb2 hb3 hx3 hle0 hle1
    have d1 : decide (r0 < 0) = false := decide_eq_false hneg
    have p1 : (r0 < 0) = False := eq_false hneg
    by_cases hneg2 : r1 < 0
    · have d2 : decide (r1 < 0) = true := decide_eq_true hneg2
      have p2 : (r1 < 0) = True := eq_true hneg2
      clear hneg hneg2
      go_wp2_with (first
        | ((with_reducible refine gate_callee (f := 12) rfl ?_); refine goesL_ (some 19) rfl rfl Try.func12 (by kernel_rfl) rfl #[.agg #[.slice A0 l0.length c0, .slice A1 l1.length c1], .int .i64 1048576] rfl (by (try simp only [List.map_toArray, List.map_cons, List.map_nil]); first | done | rfl) ?_; (with_reducible refine (laws_szDfa.calls kz0 _ _ l0 _ _ l1 1048576 r0 _ ?s1 HC0.out ?s2 HC1.out HKZ0.out).mono ?_); (case s1 => exact Kd.C_below HR0.out HB_.out); (case s2 => exact Kd.C_below HR1.out HB_.out); rintro e w2 ⟨rfl, hb⟩; (try clear aa); (try clear ab); (try clear ad); (try clear ae); replace HB_ := bt_ HB_ hb; replace BA0 := kb_ BA0 hb; replace BA1 := kb_ BA1 hb; clear hb; have aa := ck_ (v := (.slice A0 l0.length c0)) BA0 0 rfl; have ab := ck_ (v := (.slice A1 l1.length c1)) BA0 1 rfl; have ad := ck_ (v := (.slice A2 l2.length c2)) BA1 0 rfl; have ae := ck_ (v := (.slice A3 l3.length c3)) BA1 1 rfl; refine ⟨_, rfl, ?_⟩)
        | ((with_reducible refine gate_callee (f := 12) rfl ?_); refine goesL_ (some 24) rfl rfl Try.func12 (by kernel_rfl) rfl #[.agg #[.slice A2 l2.length c2, .slice A3 l3.length c3], .int .i64 r0] rfl (by (try simp only [List.map_toArray, List.map_cons, List.map_nil]); first | done | rfl) ?_; (with_reducible refine (laws_szDfa.calls kz1 _ _ l2 _ _ l3 r0 r1 _ ?s1 HC2.out ?s2 HC3.out HKZ1.out).mono ?_); (case s1 => exact Kd.C_below HR2.out HB_.out); (case s2 => exact Kd.C_below HR3.out HB_.out); rintro e w3 ⟨rfl, hb⟩; (try clear aa); (try clear ab); (try clear ad); (try clear ae); replace HB_ := bt_ HB_ hb; replace BA0 := kb_ BA0 hb; replace BA1 := kb_ BA1 hb; clear hb; have aa := ck_ (v := (.slice A0 l0.length c0)) BA0 0 rfl; have ab := ck_ (v := (.slice A1 l1.length c1)) BA0 1 rfl; have ad := ck_ (v := (.slice A2 l2.length c2)) BA1 0 rfl; have ae := ck_ (v := (.slice A3 l3.length c3)) BA1 1 rfl; refine ⟨_, rfl, ?_⟩))
      go_ret
      exact ⟨rfl, HB_.out⟩
    have d2 : decide (r1 < 0) = false := decide_eq_false hneg2
    have p2 : (r1 < 0) = False := eq_false hneg2
    obtain ⟨s1, s2, s3⟩ := HSZ0.out (by omega)
    obtain ⟨kt0, hkt0⟩ := (Pl.toDfa l0 l1 s1 s2 s3).rounds
    have HKT0 := am_ hkt0
    have qe := (Pl.sameDfa l0 l1 l0 l1 s1 s2 s3).rounds
    simp only [decide_true, Bool.and_self] at qe
    obtain ⟨ke0, hke0⟩ := qe
    have HKE0 := am_ hke0
    have HS0 := am_ (show l0.length ≤ 1048576 ∧ l1.length ≤ 1048576 ∧ ∀ x ∈ l1, x.length ≤ 1048576 from ⟨s1, s2, s3⟩)
    clear hkt0 hke0
    have s1_0 := s1
    have s2_0 := s2
    obtain ⟨s1, s2, s3⟩ := HSZ1.out (by omega)
    obtain ⟨kt1, hkt1⟩ := (Pl.toDfa l2 l3 s1 s2 s3).rounds
    have HKT1 := am_ hkt1
    have qe := (Pl.sameDfa l2 l3 l2 l3 s1 s2 s3).rounds
    simp only [decide_true, Bool.and_self] at qe
    obtain ⟨ke2, hke2⟩ := qe
    have HKE2 := am_ hke2
    have HS1 := am_ (show l2.length ≤ 1048576 ∧ l3.length ≤ 1048576 ∧ ∀ x ∈ l3, x.length ≤ 1048576 from ⟨s1, s2, s3⟩)
    clear hkt1 hke2
    have s1_1 := s1
    have s2_1 := s2
    obtain ⟨ks, hks⟩ := (spec_ct l0 l1 l2 l3 (by omega) (by omega) (by omega) (by omega)).rounds
    have hki := show impl_ConcatDfa.f l0 l1 l2 l3 = some (ctR l0 l1 l2 l3) from rfl
    obtain ⟨m1, m2, m3⟩ := ctR_len l0 l1 l2 l3
    generalize ctR l0 l1 l2 l3 = mm at hks hki m1 m2 m3
    obtain ⟨ma, mn, ok⟩ := mm
    dsimp only at m1 m2 m3 hks hki
    have qe := (Pl.sameDfa ma mn ma mn (by omega) (by omega) (fun x hx => by have := m3 x hx; omega)).rounds
    simp only [decide_true, Bool.and_self] at qe
    obtain ⟨keq, hkeq⟩ := qe
    have HKEq := am_ hkeq
    have HKS := am_ hks
    have HKI := am_ hki
    have HM := am_ (show ma.length ≤ 40 ∧ mn.length ≤ 40 ∧ ∀ r ∈ mn, r.length = 3 from ⟨m1, m2, m3⟩)
    clear hkeq hks hki m1 m2 m3 s1 s2 s3 s1_0 s2_0 s1_1 s2_1
    have HMK0 : Aside0 (0 ≤ (mkK l1 (1 + (l0.length : Int))) ∧ (mkK l1 (1 + (l0.length : Int))) ≤ 5000000000000) := ⟨by have h_ := mkK_bound l1 (1 + (l0.length : Int)) (fun x hx => by have := HS0.out.2.2 x hx; omega); have h2_ := HS0.out; omega⟩
    have kq0a : ((mkK l1 (1 + (l0.length : Int))) < 0) = False := eq_false (by have := HMK0.out; omega)
    have kq0b : decide ((mkK l1 (1 + (l0.length : Int))) < 0) = false := decide_eq_false (by have := HMK0.out; omega)
    have HMK1 : Aside0 (0 ≤ (mkK l3 ((mkK l1 (1 + (l0.length : Int))) + (l2.length : Int))) ∧ (mkK l3 ((mkK l1 (1 + (l0.length : Int))) + (l2.length : Int))) ≤ 10000000000000) := ⟨by have h_ := mkK_bound l3 ((mkK l1 (1 + (l0.length : Int))) + (l2.length : Int)) (fun x hx => by have := HS1.out.2.2 x hx; omega); have h2_ := HS1.out; have h3_ := HMK0.out; omega⟩
    have kq1a : ((mkK l3 ((mkK l1 (1 + (l0.length : Int))) + (l2.length : Int))) < 0) = False := eq_false (by have := HMK1.out; omega)
    have kq1b : decide ((mkK l3 ((mkK l1 (1 + (l0.length : Int))) + (l2.length : Int))) < 0) = false := decide_eq_false (by have := HMK1.out; omega)
    have kqra : ((mkK mn (1 + (ma.length : Int))) < 0) = False := eq_false (by have := (mkK_bound mn (1 + (ma.length : Int)) (fun x hx => by have := HM.out.2.2 x hx; omega)).1; omega)
    have kqrb : decide ((mkK mn (1 + (ma.length : Int))) < 0) = false := decide_eq_false (by have := (mkK_bound mn (1 + (ma.length : Int)) (fun x hx => by have := HM.out.2.2 x hx; omega)).1; omega)
    have okb : (ok != ok) = false := by cases ok <;> rfl
    clear hneg hneg2
    go_wp2_with (first
      | ((with_reducible refine gate_callee (f := 12) rfl ?_); refine goesL_ (some 19) rfl rfl Try.func12 (by kernel_rfl) rfl #[.agg #[.slice A0 l0.length c0, .slice A1 l1.length c1], .int .i64 1048576] rfl (by (try simp only [List.map_toArray, List.map_cons, List.map_nil]); first | done | rfl) ?_; (with_reducible refine (laws_szDfa.calls kz0 _ _ l0 _ _ l1 1048576 r0 _ ?s1 HC0.out ?s2 HC1.out HKZ0.out).mono ?_); (case s1 => exact Kd.C_below HR0.out HB_.out); (case s2 => exact Kd.C_below HR1.out HB_.out); rintro e w2 ⟨rfl, hb⟩; (try clear aa); (try clear ab); (try clear ad); (try clear ae); replace HB_ := bt_ HB_ hb; replace BA0 := kb_ BA0 hb; replace BA1 := kb_ BA1 hb; clear hb; have aa := ck_ (v := (.slice A0 l0.length c0)) BA0 0 rfl; have ab := ck_ (v := (.slice A1 l1.length c1)) BA0 1 rfl; have ad := ck_ (v := (.slice A2 l2.length c2)) BA1 0 rfl; have ae := ck_ (v := (.slice A3 l3.length c3)) BA1 1 rfl; refine ⟨_, rfl, ?_⟩)
      | ((with_reducible refine gate_callee (f := 12) rfl ?_); refine goesL_ (some 24) rfl rfl Try.func12 (by kernel_rfl) rfl #[.agg #[.slice A2 l2.length c2, .slice A3 l3.length c3], .int .i64 r0] rfl (by (try simp only [List.map_toArray, List.map_cons, List.map_nil]); first | done | rfl) ?_; (with_reducible refine (laws_szDfa.calls kz1 _ _ l2 _ _ l3 r0 r1 _ ?s1 HC2.out ?s2 HC3.out HKZ1.out).mono ?_); (case s1 => exact Kd.C_below HR2.out HB_.out); (case s2 => exact Kd.C_below HR3.out HB_.out); rintro e w3 ⟨rfl, hb⟩; (try clear aa); (try clear ab); (try clear ad); (try clear ae); replace HB_ := bt_ HB_ hb; replace BA0 := kb_ BA0 hb; replace BA1 := kb_ BA1 hb; clear hb; have aa := ck_ (v := (.slice A0 l0.length c0)) BA0 0 rfl; have ab := ck_ (v := (.slice A1 l1.length c1)) BA0 1 rfl; have ad := ck_ (v := (.slice A2 l2.length c2)) BA1 0 rfl; have ae := ck_ (v := (.slice A3 l3.length c3)) BA1 1 rfl; refine ⟨_, rfl, ?_⟩))
    refine start_ (n := 11) (S := (fun w' => w'.cell? ⟨w.heap.size, 0, none⟩ = some (.slice A0 l0.length c0) ∧ w'.cell? ⟨w.heap.size, 1, none⟩ = some (.slice A1 l1.length c1) ∧ w'.cell? ⟨w.heap.size + 1, 0, none⟩ = some (.slice A2 l2.length c2) ∧ w'.cell? ⟨w.heap.size + 1, 1, none⟩ = some (.slice A3 l3.length c3))) (ds := [9]) (bl 11 0) (by kernel_rfl) rfl rfl (⟨(blk_cell BA0.out 0).trans rfl, (blk_cell BA0.out 1).trans rfl, (blk_cell BA1.out 0).trans rfl, (blk_cell BA1.out 1).trans rfl⟩) (fun hHeld => ?_); refine with_tabW tab8Ct bits8Ct (fun HT_ HW_ => ?_)
    (try clear aa)
    (try clear ab)
    (try clear ad)
    (try clear ae)
    have hb := below_drew1 (Below.refl w3.heap.size w3)
    replace HB_ := bt_ HB_ hb
    replace BA0 := kb_ BA0 hb
    replace BA1 := kb_ BA1 hb
    clear hb
    generalize w3.drew = w4 at HB_ BA0 BA1 hHeld ⊢
    refine th_ 0 28 (bl 11 1) HT_ HW_ hHeld ?_
    refine th_ 2 30 (bl 11 5) HT_ HW_ hHeld ?_
    refine join_ (σ := Value × Value × Value × Value × Nat) 2 (bl 11 511) (fun s_ => [(29, s_.1), (31, s_.2.1), (32, .tuple #[.agg #[s_.2.2.1, s_.2.2.2.1], .bool ok]), (6, .pointer (some ⟨s_.2.2.2.2, 0, none⟩)), (27, .tuple #[.agg #[s_.2.2.1, s_.2.2.2.1], .bool ok]), (33, .agg #[s_.2.2.1, s_.2.2.2.1]), (34, .bool ok)]) (fun s_ w' => (fun w' => w'.cell? ⟨w.heap.size, 0, none⟩ = some (.slice A0 l0.length c0) ∧ w'.cell? ⟨w.heap.size, 1, none⟩ = some (.slice A1 l1.length c1) ∧ w'.cell? ⟨w.heap.size + 1, 0, none⟩ = some (.slice A2 l2.length c2) ∧ w'.cell? ⟨w.heap.size + 1, 1, none⟩ = some (.slice A3 l3.length c3)) w' ∧ Below w4.heap.size w4 w' ∧ (∃ lo hi : Nat, DvN w.heap.size w' lo hi s_.2.2.1 s_.2.2.2.1 ma mn ∧ w4.heap.size ≤ lo ∧ hi ≤ w'.heap.size ∧ (s_.2.2.2.2 < lo ∨ hi ≤ s_.2.2.2.2)) ∧ w'.heap[s_.2.2.2.2]? = some (.cells #[.slice none 0 0, .slice none 0 0] 27 (0, 0)) ∧ w4.heap.size ≤ s_.2.2.2.2) ?_ ?_
    rotate_left
    · intro hCont
      have HBw := am_ (Below.refl w4.heap.size w4)
      refine two_ (i := 1) (j := 8) (Ni := some 29) (Nj := some 6) (bl 11 7) (bl 11 261) rfl rfl rfl rfl (two_of HT_.out (by kernel_rfl)) (by decide) (by decide) (fun K hK => ?_) (fun K hK => ?_)
      · skip
        refine goes_ Try.func14 (by kernel_rfl) rfl #[.agg #[.slice A0 l0.length c0, .slice A1 l1.length c1]] (by rfl) rfl rfl (by (try simp only [List.map_toArray, List.map_cons, List.map_nil]); first | done | rfl) ?_
        with_reducible refine (laws_toDfa.calls kt0 _ _ l0 _ _ l1 l0 l1 _ ?s1 HC0.out ?s2 HC1.out HKT0.out).mono ?_
        (case s1 => exact Kd.C_below HR0.out (below_then HB_.out HB_.out.size HBw.out))
        (case s2 => exact Kd.C_below HR1.out (below_then HB_.out HB_.out.size HBw.out))
        rintro e wc1 ⟨y0, y1, rfl, hf0, hf1, hb⟩
        refine ⟨_, rfl, ?_⟩
        have HE0 := am_ (Dv.fresh (base := w.heap.size) (Nat.le_trans HB_.out.size HBw.out.size) hf0 hf1)
        have HE0l := am_ HBw.out.size
        replace HBw := bt_ HBw hb
        obtain ⟨E0A, E0c, E0B, E0d, e0, e1, hs0, hs1⟩ := HE0.out.slices
        subst e0
        subst e1
        have HE0s := am_ hs0
        have HE0t := am_ hs1
        clear hs0 hs1 hf0 hf1
        refine hK.out _ _ (pb4_ hb hHeld) (fun hHeld => ?_)
        clear hK K hb
        refine nm_ 29 ?_
        refine two_ (i := 3) (j := 8) (Ni := some 31) (Nj := some 6) (bl 11 15) (bl 11 263) rfl rfl rfl rfl (two_of HT_.out (by kernel_rfl)) (by decide) (by decide) (fun K hK => ?_) (fun K hK => ?_)
        · skip
          refine goes_ Try.func14 (by kernel_rfl) rfl #[.agg #[.slice A2 l2.length c2, .slice A3 l3.length c3]] (by rfl) rfl rfl (by (try simp only [List.map_toArray, List.map_cons, List.map_nil]); first | done | rfl) ?_
          with_reducible refine (laws_toDfa.calls kt1 _ _ l2 _ _ l3 l2 l3 _ ?s1 HC2.out ?s2 HC3.out HKT1.out).mono ?_
          (case s1 => exact Kd.C_below HR2.out (below_then HB_.out HB_.out.size HBw.out))
          (case s2 => exact Kd.C_below HR3.out (below_then HB_.out HB_.out.size HBw.out))
          rintro e wc2 ⟨y0, y1, rfl, hf0, hf1, hb⟩
          refine ⟨_, rfl, ?_⟩
          have HE1 := am_ (Dv.fresh (base := w.heap.size) (Nat.le_trans HB_.out.size HBw.out.size) hf0 hf1)
          have HE1l := am_ HBw.out.size
          replace HBw := bt_ HBw hb
          replace HE0 := am_ (HE0.out.below hb)
          obtain ⟨E1A, E1c, E1B, E1d, e0, e1, hs0, hs1⟩ := HE1.out.slices
          subst e0
          subst e1
          have HE1s := am_ hs0
          have HE1t := am_ hs1
          clear hs0 hs1 hf0 hf1
          refine hK.out _ _ (pb4_ hb hHeld) (fun hHeld => ?_)
          clear hK K hb
          refine nm_ 31 ?_
          refine two_ (i := 4) (j := 8) (Ni := some 32) (Nj := some 6) (bl 11 31) (bl 11 271) rfl rfl rfl rfl (two_of HT_.out (by kernel_rfl)) (by decide) (by decide) (fun K hK => ?_) (fun K hK => ?_)
          · skip
            refine goes_ Try.func23 (by kernel_rfl) rfl #[.agg #[.slice E0A l0.length E0c, .slice E0B l1.length E0d], .agg #[.slice E1A l2.length E1c, .slice E1B l3.length E1d]] (by rfl) rfl rfl (by (try simp only [List.map_toArray, List.map_cons, List.map_nil]); first | done | rfl) ?_
            with_reducible refine (spec_ConcatDfa.calls ks _ _ l0 _ _ l1 _ _ l2 _ _ l3 ma mn ok _ ?s1 HE0s.out ?s2 HE0t.out ?s3 HE1s.out ?s4 HE1t.out HKS.out).mono ?_
            (case s1 => exact HE0.out.c0)
            (case s2 => exact HE0.out.c1)
            (case s3 => exact HE1.out.c0)
            (case s4 => exact HE1.out.c1)
            rintro e wc3 ⟨y0, y1, rfl, hf0, hf1, hb⟩
            refine ⟨_, rfl, ?_⟩
            have HEW := am_ (DvN.fresh (base := w.heap.size) (Nat.le_trans HB_.out.size HBw.out.size) hf0 hf1 (fun k hk => hk.1))
            have HEWl := am_ HBw.out.size
            replace HBw := bt_ HBw hb
            replace HE0 := am_ (HE0.out.below hb)
            replace HE1 := am_ (HE1.out.below hb)
            refine hK.out _ _ (pb4_ hb hHeld) (fun hHeld => ?_)
            clear hK K hb
            refine nm_ 32 ?_
            have HEWh := am_ (Nat.le_refl (World.heap wc3).size)
            refine ph_ 5 27 (bl 11 63) HT_ ?_
            refine ph_ 6 33 (bl 11 127) HT_ ?_
            refine ph_ 7 34 (bl 11 255) HT_ ?_
            refine on_ 8 (some 6) (bl 11 511) HT_ (fun K hK => ?_)
            refine box_step ?hg (N := 6) ?hd (cs := #[.slice none 0 0, .slice none 0 0]) (t := 27) ?hr ?_; (case hd => rfl); (case hg => rfl); (case hr => first | (go_simp; done) | (go_simp; rfl))
            intro gb hg wa3 hbox hb
            have HGX := am_ (fun lo : Nat => (Or.inr (by rw [hg]; exact HEWh.out) : gb < lo ∨ _ ≤ gb))
            have HGE := am_ (show w4.heap.size ≤ gb by rw [hg]; exact HBw.out.size)
            have HGB := am_ hbox
            replace HBw := bt_ HBw hb
            replace HE0 := am_ (HE0.out.below hb)
            replace HE1 := am_ (HE1.out.below hb)
            replace HEW := am_ (HEW.out.below hb)
            have HEWh := sz_ HEWh hb
            refine hK.out _ _ (pb4_ hb hHeld) (fun hHeld => ?_)
            clear hK K hb hbox
            refine nm_ 6 ?_
            exact norm_ (by simp only [putAll, Act.put, List.setIfInBounds_toArray, List.set_cons_zero, List.set_cons_succ]) (hCont (.agg #[.slice E0A l0.length E0c, .slice E0B l1.length E0d], .agg #[.slice E1A l2.length E1c, .slice E1B l3.length E1d], _, _, gb) _ ⟨hHeld, HBw.out, ⟨_, _, HEW.out, HEWl.out, HEWh.out, HGX.out _⟩, HGB.out, HGE.out⟩)
          · skip
            refine box_step ?hg (N := 6) ?hd (cs := #[.slice none 0 0, .slice none 0 0]) (t := 27) ?hr ?_; (case hd => rfl); (case hg => rfl); (case hr => first | (go_simp; done) | (go_simp; rfl))
            intro gb hg wa2 hbox hb
            have HGE := am_ (show w4.heap.size ≤ gb by rw [hg]; exact HBw.out.size)
            have HGB := am_ hbox
            replace HBw := bt_ HBw hb
            replace HE0 := am_ (HE0.out.below hb)
            replace HE1 := am_ (HE1.out.below hb)
            refine hK.out _ _ (pb4_ hb hHeld) (fun hHeld => ?_)
            clear hK K hb hbox
            refine nm_ 6 ?_
            refine on_ 4 (some 32) (bl 11 287) HT_ (fun K hK => ?_)
            refine goes_ Try.func23 (by kernel_rfl) rfl #[.agg #[.slice E0A l0.length E0c, .slice E0B l1.length E0d], .agg #[.slice E1A l2.length E1c, .slice E1B l3.length E1d]] (by rfl) rfl rfl (by (try simp only [List.map_toArray, List.map_cons, List.map_nil]); first | done | rfl) ?_
            with_reducible refine (spec_ConcatDfa.calls ks _ _ l0 _ _ l1 _ _ l2 _ _ l3 ma mn ok _ ?s1 HE0s.out ?s2 HE0t.out ?s3 HE1s.out ?s4 HE1t.out HKS.out).mono ?_
            (case s1 => exact HE0.out.c0)
            (case s2 => exact HE0.out.c1)
            (case s3 => exact HE1.out.c0)
            (case s4 => exact HE1.out.c1)
            rintro e wc32 ⟨y0, y1, rfl, hf0, hf1, hb⟩
            refine ⟨_, rfl, ?_⟩
            have HGX := am_ (fun hi : Nat => (Or.inl (blk_lt HGB.out) : gb < _ ∨ hi ≤ gb))
            have HEW := am_ (DvN.fresh (base := w.heap.size) (Nat.le_trans HB_.out.size HBw.out.size) hf0 hf1 (fun k hk => hk.1))
            have HEWl := am_ HBw.out.size
            replace HBw := bt_ HBw hb
            replace HE0 := am_ (HE0.out.below hb)
            replace HE1 := am_ (HE1.out.below hb)
            replace HGB := am_ (blk_below HGB.out hb)
            refine hK.out _ _ (pb4_ hb hHeld) (fun hHeld => ?_)
            clear hK K hb
            refine nm_ 32 ?_
            have HEWh := am_ (Nat.le_refl (World.heap wc32).size)
            refine ph_ 5 27 (bl 11 319) HT_ ?_
            refine ph_ 6 33 (bl 11 383) HT_ ?_
            refine ph_ 7 34 (bl 11 511) HT_ ?_
            exact norm_ (by simp only [putAll, Act.put, List.setIfInBounds_toArray, List.set_cons_zero, List.set_cons_succ]) (hCont (.agg #[.slice E0A l0.length E0c, .slice E0B l1.length E0d], .agg #[.slice E1A l2.length E1c, .slice E1B l3.length E1d], _, _, gb) _ ⟨hHeld, HBw.out, ⟨_, _, HEW.out, HEWl.out, HEWh.out, HGX.out _⟩, HGB.out, HGE.out⟩)
        · skip
          refine box_step ?hg (N := 6) ?hd (cs := #[.slice none 0 0, .slice none 0 0]) (t := 27) ?hr ?_; (case hd => rfl); (case hg => rfl); (case hr => first | (go_simp; done) | (go_simp; rfl))
          intro gb hg wa1 hbox hb
          have HGE := am_ (show w4.heap.size ≤ gb by rw [hg]; exact HBw.out.size)
          have HGB := am_ hbox
          replace HBw := bt_ HBw hb
          replace HE0 := am_ (HE0.out.below hb)
          refine hK.out _ _ (pb4_ hb hHeld) (fun hHeld => ?_)
          clear hK K hb hbox
          refine nm_ 6 ?_
          refine on_ 3 (some 31) (bl 11 271) HT_ (fun K hK => ?_)
          refine goes_ Try.func14 (by kernel_rfl) rfl #[.agg #[.slice A2 l2.length c2, .slice A3 l3.length c3]] (by rfl) rfl rfl (by (try simp only [List.map_toArray, List.map_cons, List.map_nil]); first | done | rfl) ?_
          with_reducible refine (laws_toDfa.calls kt1 _ _ l2 _ _ l3 l2 l3 _ ?s1 HC2.out ?s2 HC3.out HKT1.out).mono ?_
          (case s1 => exact Kd.C_below HR2.out (below_then HB_.out HB_.out.size HBw.out))
          (case s2 => exact Kd.C_below HR3.out (below_then HB_.out HB_.out.size HBw.out))
          rintro e wc21 ⟨y0, y1, rfl, hf0, hf1, hb⟩
          refine ⟨_, rfl, ?_⟩
          have HE1 := am_ (Dv.fresh (base := w.heap.size) (Nat.le_trans HB_.out.size HBw.out.size) hf0 hf1)
          have HE1l := am_ HBw.out.size
          replace HBw := bt_ HBw hb
          replace HE0 := am_ (HE0.out.below hb)
          replace HGB := am_ (blk_below HGB.out hb)
          obtain ⟨E1A, E1c, E1B, E1d, e0, e1, hs0, hs1⟩ := HE1.out.slices
          subst e0
          subst e1
          have HE1s := am_ hs0
          have HE1t := am_ hs1
          clear hs0 hs1 hf0 hf1
          refine hK.out _ _ (pb4_ hb hHeld) (fun hHeld => ?_)
          clear hK K hb
          refine nm_ 31 ?_
          refine on_ 4 (some 32) (bl 11 287) HT_ (fun K hK => ?_)
          refine goes_ Try.func23 (by kernel_rfl) rfl #[.agg #[.slice E0A l0.length E0c, .slice E0B l1.length E0d], .agg #[.slice E1A l2.length E1c, .slice E1B l3.length E1d]] (by rfl) rfl rfl (by (try simp only [List.map_toArray, List.map_cons, List.map_nil]); first | done | rfl) ?_
          with_reducible refine (spec_ConcatDfa.calls ks _ _ l0 _ _ l1 _ _ l2 _ _ l3 ma mn ok _ ?s1 HE0s.out ?s2 HE0t.out ?s3 HE1s.out ?s4 HE1t.out HKS.out).mono ?_
          (case s1 => exact HE0.out.c0)
          (case s2 => exact HE0.out.c1)
          (case s3 => exact HE1.out.c0)
          (case s4 => exact HE1.out.c1)
          rintro e wc31 ⟨y0, y1, rfl, hf0, hf1, hb⟩
          refine ⟨_, rfl, ?_⟩
          have HGX := am_ (fun hi : Nat => (Or.inl (blk_lt HGB.out) : gb < _ ∨ hi ≤ gb))
          have HEW := am_ (DvN.fresh (base := w.heap.size) (Nat.le_trans HB_.out.size HBw.out.size) hf0 hf1 (fun k hk => hk.1))
          have HEWl := am_ HBw.out.size
          replace HBw := bt_ HBw hb
          replace HE0 := am_ (HE0.out.below hb)
          replace HE1 := am_ (HE1.out.below hb)
          replace HGB := am_ (blk_below HGB.out hb)
          refine hK.out _ _ (pb4_ hb hHeld) (fun hHeld => ?_)
          clear hK K hb
          refine nm_ 32 ?_
          have HEWh := am_ (Nat.le_refl (World.heap wc31).size)
          refine ph_ 5 27 (bl 11 319) HT_ ?_
          refine ph_ 6 33 (bl 11 383) HT_ ?_
          refine ph_ 7 34 (bl 11 511) HT_ ?_
          exact norm_ (by simp only [putAll, Act.put, List.setIfInBounds_toArray, List.set_cons_zero, List.set_cons_succ]) (hCont (.agg #[.slice E0A l0.length E0c, .slice E0B l1.length E0d], .agg #[.slice E1A l2.length E1c, .slice E1B l3.length E1d], _, _, gb) _ ⟨hHeld, HBw.out, ⟨_, _, HEW.out, HEWl.out, HEWh.out, HGX.out _⟩, HGB.out, HGE.out⟩)
      · skip
        refine box_step ?hg (N := 6) ?hd (cs := #[.slice none 0 0, .slice none 0 0]) (t := 27) ?hr ?_; (case hd => rfl); (case hg => rfl); (case hr => first | (go_simp; done) | (go_simp; rfl))
        intro gb hg wa0 hbox hb
        have HGE := am_ (show w4.heap.size ≤ gb by rw [hg]; exact HBw.out.size)
        have HGB := am_ hbox
        replace HBw := bt_ HBw hb
        refine hK.out _ _ (pb4_ hb hHeld) (fun hHeld => ?_)
        clear hK K hb hbox
        refine nm_ 6 ?_
        refine on_ 1 (some 29) (bl 11 263) HT_ (fun K hK => ?_)
        refine goes_ Try.func14 (by kernel_rfl) rfl #[.agg #[.slice A0 l0.length c0, .slice A1 l1.length c1]] (by rfl) rfl rfl (by (try simp only [List.map_toArray, List.map_cons, List.map_nil]); first | done | rfl) ?_
        with_reducible refine (laws_toDfa.calls kt0 _ _ l0 _ _ l1 l0 l1 _ ?s1 HC0.out ?s2 HC1.out HKT0.out).mono ?_
        (case s1 => exact Kd.C_below HR0.out (below_then HB_.out HB_.out.size HBw.out))
        (case s2 => exact Kd.C_below HR1.out (below_then HB_.out HB_.out.size HBw.out))
        rintro e wc10 ⟨y0, y1, rfl, hf0, hf1, hb⟩
        refine ⟨_, rfl, ?_⟩
        have HE0 := am_ (Dv.fresh (base := w.heap.size) (Nat.le_trans HB_.out.size HBw.out.size) hf0 hf1)
        have HE0l := am_ HBw.out.size
        replace HBw := bt_ HBw hb
        replace HGB := am_ (blk_below HGB.out hb)
        obtain ⟨E0A, E0c, E0B, E0d, e0, e1, hs0, hs1⟩ := HE0.out.slices
        subst e0
        subst e1
        have HE0s := am_ hs0
        have HE0t := am_ hs1
        clear hs0 hs1 hf0 hf1
        refine hK.out _ _ (pb4_ hb hHeld) (fun hHeld => ?_)
        clear hK K hb
        refine nm_ 29 ?_
        refine on_ 3 (some 31) (bl 11 271) HT_ (fun K hK => ?_)
        refine goes_ Try.func14 (by kernel_rfl) rfl #[.agg #[.slice A2 l2.length c2, .slice A3 l3.length c3]] (by rfl) rfl rfl (by (try simp only [List.map_toArray, List.map_cons, List.map_nil]); first | done | rfl) ?_
        with_reducible refine (laws_toDfa.calls kt1 _ _ l2 _ _ l3 l2 l3 _ ?s1 HC2.out ?s2 HC3.out HKT1.out).mono ?_
        (case s1 => exact Kd.C_below HR2.out (below_then HB_.out HB_.out.size HBw.out))
        (case s2 => exact Kd.C_below HR3.out (below_then HB_.out HB_.out.size HBw.out))
        rintro e wc20 ⟨y0, y1, rfl, hf0, hf1, hb⟩
        refine ⟨_, rfl, ?_⟩
        have HE1 := am_ (Dv.fresh (base := w.heap.size) (Nat.le_trans HB_.out.size HBw.out.size) hf0 hf1)
        have HE1l := am_ HBw.out.size
        replace HBw := bt_ HBw hb
        replace HE0 := am_ (HE0.out.below hb)
        replace HGB := am_ (blk_below HGB.out hb)
        obtain ⟨E1A, E1c, E1B, E1d, e0, e1, hs0, hs1⟩ := HE1.out.slices
        subst e0
        subst e1
        have HE1s := am_ hs0
        have HE1t := am_ hs1
        clear hs0 hs1 hf0 hf1
        refine hK.out _ _ (pb4_ hb hHeld) (fun hHeld => ?_)
        clear hK K hb
        refine nm_ 31 ?_
        refine on_ 4 (some 32) (bl 11 287) HT_ (fun K hK => ?_)
        refine goes_ Try.func23 (by kernel_rfl) rfl #[.agg #[.slice E0A l0.length E0c, .slice E0B l1.length E0d], .agg #[.slice E1A l2.length E1c, .slice E1B l3.length E1d]] (by rfl) rfl rfl (by (try simp only [List.map_toArray, List.map_cons, List.map_nil]); first | done | rfl) ?_
        with_reducible refine (spec_ConcatDfa.calls ks _ _ l0 _ _ l1 _ _ l2 _ _ l3 ma mn ok _ ?s1 HE0s.out ?s2 HE0t.out ?s3 HE1s.out ?s4 HE1t.out HKS.out).mono ?_
        (case s1 => exact HE0.out.c0)
        (case s2 => exact HE0.out.c1)
        (case s3 => exact HE1.out.c0)
        (case s4 => exact HE1.out.c1)
        rintro e wc30 ⟨y0, y1, rfl, hf0, hf1, hb⟩
        refine ⟨_, rfl, ?_⟩
        have HGX := am_ (fun hi : Nat => (Or.inl (blk_lt HGB.out) : gb < _ ∨ hi ≤ gb))
        have HEW := am_ (DvN.fresh (base := w.heap.size) (Nat.le_trans HB_.out.size HBw.out.size) hf0 hf1 (fun k hk => hk.1))
        have HEWl := am_ HBw.out.size
        replace HBw := bt_ HBw hb
        replace HE0 := am_ (HE0.out.below hb)
        replace HE1 := am_ (HE1.out.below hb)
        replace HGB := am_ (blk_below HGB.out hb)
        refine hK.out _ _ (pb4_ hb hHeld) (fun hHeld => ?_)
        clear hK K hb
        refine nm_ 32 ?_
        have HEWh := am_ (Nat.le_refl (World.heap wc30).size)
        refine ph_ 5 27 (bl 11 319) HT_ ?_
        refine ph_ 6 33 (bl 11 383) HT_ ?_
        refine ph_ 7 34 (bl 11 511) HT_ ?_
        exact norm_ (by simp only [putAll, Act.put, List.setIfInBounds_toArray, List.set_cons_zero, List.set_cons_succ]) (hCont (.agg #[.slice E0A l0.length E0c, .slice E0B l1.length E0d], .agg #[.slice E1A l2.length E1c, .slice E1B l3.length E1d], _, _, gb) _ ⟨hHeld, HBw.out, ⟨_, _, HEW.out, HEWl.out, HEWh.out, HGX.out _⟩, HGB.out, HGE.out⟩)
    rintro ⟨ap, aq, b0_, b1_, g_DW⟩ wj ⟨hHeld, hbj, ⟨lo_DW, hi_DW, hDj, hl1, hl2, hlx⟩, hGj, hgj⟩
    obtain ⟨DWA, DWc, DWB, DWd, e0, e1, hs0, hs1⟩ := hDj.slices
    subst e0
    subst e1
    refine norm_ (a' := ?_) ?_ ?_
    rotate_left
    · simp only [putAll, Act.put, List.setIfInBounds_toArray, List.set_cons_zero, List.set_cons_succ]
      rfl
    refine last_ (i := 9) (N := none) (bl 11 1023) rfl rfl (one_of HT_.out (by kernel_rfl)) (by decide) (fun K hK => ?_)
    have hsz0 : wj.cell? ⟨g_DW, 0, none⟩ = some (.slice none 0 0) := (blk_cell hGj 0).trans rfl
    have hsz1 : wj.cell? ⟨g_DW, 1, none⟩ = some (.slice none 0 0) := (blk_cell hGj 1).trans rfl
    have hfr0 := blk_frozen hGj 0
    have hfr1 := blk_frozen hGj 1
    refine skip_ (w1 := ?_) (by rfl) rfl ?_ ?_
    rotate_left
    · go_simp
      rfl
    refine hK.out _ _ ?_
    clear hK K hsz0 hsz1 hfr0 hfr1
    refine ph_ 10 7 (bl 11 2047) HT_ ?_
    refine done_ (done_of HT_.out (by kernel_rfl)) ?_
    clear HT_ HW_ hHeld
    have hG1 : (wj.setCell ⟨g_DW, 0, none⟩ (.slice DWA ma.length DWc)).heap[g_DW]? = some (.cells #[.slice DWA ma.length DWc, .slice none 0 0] 27 (0, 0)) := blk_put hGj 0 _ rfl
    have hG2 : ((wj.setCell ⟨g_DW, 0, none⟩ (.slice DWA ma.length DWc)).setCell ⟨g_DW, 1, none⟩ (.slice DWB mn.length DWd)).heap[g_DW]? = some (.cells #[.slice DWA ma.length DWc, .slice DWB mn.length DWd] 27 (0, 0)) := blk_put hG1 1 _ rfl
    have hD2 := (hDj.box hlx 0 (.slice DWA ma.length DWc)).box hlx 1 (.slice DWB mn.length DWd)
    have hb : Below w4.heap.size w4 ((wj.setCell ⟨g_DW, 0, none⟩ (.slice DWA ma.length DWc)).setCell ⟨g_DW, 1, none⟩ (.slice DWB mn.length DWd)) := below_set (below_set hbj hgj) hgj
    have hl3 : hi_DW ≤ ((wj.setCell ⟨g_DW, 0, none⟩ (.slice DWA ma.length DWc)).setCell ⟨g_DW, 1, none⟩ (.slice DWB mn.length DWd)).heap.size := by simpa [World.setCell] using hl2
    have p_BA0_DW := am_ (Nat.lt_of_lt_of_le (blk_lt BA0.out) hl1)
    have p_BA1_DW := am_ (Nat.lt_of_lt_of_le (blk_lt BA1.out) hl1)
    have p_BA0_BDW := am_ (Nat.lt_of_lt_of_le (blk_lt BA0.out) hgj)
    have p_BA1_BDW := am_ (Nat.lt_of_lt_of_le (blk_lt BA1.out) hgj)
    replace HB_ := bt_ HB_ hb
    replace BA0 := kb_ BA0 hb
    replace BA1 := kb_ BA1 hb
    have DW := am_ hD2
    have DWh := am_ hl3
    have DWs := am_ hs0
    have DWt := am_ hs1
    have BDW := am_ hG2
    clear hG1 hG2 hD2 hDj hGj hbj hgj hl1 hl2 hl3 hs0 hs1 hb
    generalize (wj.setCell ⟨g_DW, 0, none⟩ (.slice DWA ma.length DWc)).setCell ⟨g_DW, 1, none⟩ (.slice DWB mn.length DWd) = w5 at HB_ BA0 BA1 BDW DW DWh ⊢
    have aa := ck_ (v := (.slice A0 l0.length c0)) BA0 0 rfl
    have ab := ck_ (v := (.slice A1 l1.length c1)) BA0 1 rfl
    have ad := ck_ (v := (.slice A2 l2.length c2)) BA1 0 rfl
    have ae := ck_ (v := (.slice A3 l3.length c3)) BA1 1 rfl
    have af := ck_ (v := (.slice DWA ma.length DWc)) BDW 0 rfl
    have ag := ck_ (v := (.slice DWB mn.length DWd)) BDW 1 rfl
    go_wp2_with (first
      | ((with_reducible refine gate_callee (f := 14) rfl ?_); refine goesL_ (some 36) rfl rfl Try.func14 (by kernel_rfl) rfl #[.agg #[.slice A0 l0.length c0, .slice A1 l1.length c1]] rfl (by (try simp only [List.map_toArray, List.map_cons, List.map_nil]); first | done | rfl) ?_; (with_reducible refine (laws_toDfa.calls kt0 _ _ l0 _ _ l1 l0 l1 _ ?s1 HC0.out ?s2 HC1.out HKT0.out).mono ?_); (case s1 => exact Kd.C_below HR0.out HB_.out); (case s2 => exact Kd.C_below HR1.out HB_.out); rintro e w6 ⟨a0_, a1_, rfl, hf0, hf1, hb⟩; (try clear aa); (try clear ab); (try clear ad); (try clear ae); (try clear af); (try clear ag); have p_DW_D4 := am_ DWh.out; have p_BA0_D4 := am_ (blk_lt BA0.out); have p_BA1_D4 := am_ (blk_lt BA1.out); have p_BDW_D4 := am_ (blk_lt BDW.out); have D4h : Aside0 (w6.heap.size ≤ w6.heap.size) := ⟨Nat.le_refl _⟩; have D4 := am_ (Dv.fresh (base := w.heap.size) HB_.out.size hf0 hf1); replace HB_ := bt_ HB_ hb; replace BA0 := kb_ BA0 hb; replace BA1 := kb_ BA1 hb; replace BDW := kb_ BDW hb; replace DW := am_ (DW.out.below hb); have DWh := sz_ DWh hb; clear hf0 hf1 hb; obtain ⟨D4A, D4c, D4B, D4d, e0, e1, hs0, hs1⟩ := D4.out.slices; subst e0; subst e1; have D4s := am_ hs0; have D4t := am_ hs1; clear hs0 hs1; have p_DW_BD4 := am_ DWh.out; have p_D4_BD4 := am_ D4h.out; have BD4 := am_ (blk_new w6 (Obj.cells #[.slice D4A l0.length D4c, .slice D4B l1.length D4d] 27)); replace HB_ := am_ (below_alloc HB_.out (Obj.cells #[.slice D4A l0.length D4c, .slice D4B l1.length D4d] 27)); replace BA0 := am_ (blk_alloc BA0.out (Obj.cells #[.slice D4A l0.length D4c, .slice D4B l1.length D4d] 27)); replace BA1 := am_ (blk_alloc BA1.out (Obj.cells #[.slice D4A l0.length D4c, .slice D4B l1.length D4d] 27)); replace BDW := am_ (blk_alloc BDW.out (Obj.cells #[.slice D4A l0.length D4c, .slice D4B l1.length D4d] 27)); replace DW := am_ (DW.out.below (below_alloc (Below.refl _ _) (Obj.cells #[.slice D4A l0.length D4c, .slice D4B l1.length D4d] 27))); replace D4 := am_ (D4.out.below (below_alloc (Below.refl _ _) (Obj.cells #[.slice D4A l0.length D4c, .slice D4B l1.length D4d] 27))); have DWh := am_ (Nat.le_trans DWh.out (below_alloc (Below.refl _ _) (Obj.cells #[.slice D4A l0.length D4c, .slice D4B l1.length D4d] 27)).size); have D4h := am_ (Nat.le_trans D4h.out (below_alloc (Below.refl _ _) (Obj.cells #[.slice D4A l0.length D4c, .slice D4B l1.length D4d] 27)).size); have aa := ck_ (v := (.slice A0 l0.length c0)) BA0 0 rfl; have ab := ck_ (v := (.slice A1 l1.length c1)) BA0 1 rfl; have ad := ck_ (v := (.slice A2 l2.length c2)) BA1 0 rfl; have ae := ck_ (v := (.slice A3 l3.length c3)) BA1 1 rfl; have af := ck_ (v := (.slice DWA ma.length DWc)) BDW 0 rfl; have ag := ck_ (v := (.slice DWB mn.length DWd)) BDW 1 rfl; have ah := ck_ (v := (.slice D4A l0.length D4c)) BD4 0 rfl; have ai := ck_ (v := (.slice D4B l1.length D4d)) BD4 1 rfl; refine ⟨_, rfl, ?_⟩)
      | ((with_reducible refine gate_callee (f := 14) rfl ?_); refine goesL_ (some 38) rfl rfl Try.func14 (by kernel_rfl) rfl #[.agg #[.slice A2 l2.length c2, .slice A3 l3.length c3]] rfl (by (try simp only [List.map_toArray, List.map_cons, List.map_nil]); first | done | rfl) ?_; (with_reducible refine (laws_toDfa.calls kt1 _ _ l2 _ _ l3 l2 l3 _ ?s1 HC2.out ?s2 HC3.out HKT1.out).mono ?_); (case s1 => exact Kd.C_below HR2.out HB_.out); (case s2 => exact Kd.C_below HR3.out HB_.out); rintro e w7 ⟨a0_, a1_, rfl, hf0, hf1, hb⟩; (try clear aa); (try clear ab); (try clear ad); (try clear ae); (try clear af); (try clear ag); (try clear ah); (try clear ai); have p_DW_D6 := am_ DWh.out; have p_D4_D6 := am_ D4h.out; have p_BA0_D6 := am_ (blk_lt BA0.out); have p_BA1_D6 := am_ (blk_lt BA1.out); have p_BDW_D6 := am_ (blk_lt BDW.out); have p_BD4_D6 := am_ (blk_lt BD4.out); have D6h : Aside0 (w7.heap.size ≤ w7.heap.size) := ⟨Nat.le_refl _⟩; have D6 := am_ (Dv.fresh (base := w.heap.size) HB_.out.size hf0 hf1); replace HB_ := bt_ HB_ hb; replace BA0 := kb_ BA0 hb; replace BA1 := kb_ BA1 hb; replace BDW := kb_ BDW hb; replace BD4 := kb_ BD4 hb; replace DW := am_ (DW.out.below hb); replace D4 := am_ (D4.out.below hb); have DWh := sz_ DWh hb; have D4h := sz_ D4h hb; clear hf0 hf1 hb; obtain ⟨D6A, D6c, D6B, D6d, e0, e1, hs0, hs1⟩ := D6.out.slices; subst e0; subst e1; have D6s := am_ hs0; have D6t := am_ hs1; clear hs0 hs1; have p_DW_BD6 := am_ DWh.out; have p_D4_BD6 := am_ D4h.out; have p_D6_BD6 := am_ D6h.out; have BD6 := am_ (blk_new w7 (Obj.cells #[.slice D6A l2.length D6c, .slice D6B l3.length D6d] 27)); replace HB_ := am_ (below_alloc HB_.out (Obj.cells #[.slice D6A l2.length D6c, .slice D6B l3.length D6d] 27)); replace BA0 := am_ (blk_alloc BA0.out (Obj.cells #[.slice D6A l2.length D6c, .slice D6B l3.length D6d] 27)); replace BA1 := am_ (blk_alloc BA1.out (Obj.cells #[.slice D6A l2.length D6c, .slice D6B l3.length D6d] 27)); replace BDW := am_ (blk_alloc BDW.out (Obj.cells #[.slice D6A l2.length D6c, .slice D6B l3.length D6d] 27)); replace BD4 := am_ (blk_alloc BD4.out (Obj.cells #[.slice D6A l2.length D6c, .slice D6B l3.length D6d] 27)); replace DW := am_ (DW.out.below (below_alloc (Below.refl _ _) (Obj.cells #[.slice D6A l2.length D6c, .slice D6B l3.length D6d] 27))); replace D4 := am_ (D4.out.below (below_alloc (Below.refl _ _) (Obj.cells #[.slice D6A l2.length D6c, .slice D6B l3.length D6d] 27))); replace D6 := am_ (D6.out.below (below_alloc (Below.refl _ _) (Obj.cells #[.slice D6A l2.length D6c, .slice D6B l3.length D6d] 27))); have DWh := am_ (Nat.le_trans DWh.out (below_alloc (Below.refl _ _) (Obj.cells #[.slice D6A l2.length D6c, .slice D6B l3.length D6d] 27)).size); have D4h := am_ (Nat.le_trans D4h.out (below_alloc (Below.refl _ _) (Obj.cells #[.slice D6A l2.length D6c, .slice D6B l3.length D6d] 27)).size); have D6h := am_ (Nat.le_trans D6h.out (below_alloc (Below.refl _ _) (Obj.cells #[.slice D6A l2.length D6c, .slice D6B l3.length D6d] 27)).size); have aa := ck_ (v := (.slice A0 l0.length c0)) BA0 0 rfl; have ab := ck_ (v := (.slice A1 l1.length c1)) BA0 1 rfl; have ad := ck_ (v := (.slice A2 l2.length c2)) BA1 0 rfl; have ae := ck_ (v := (.slice A3 l3.length c3)) BA1 1 rfl; have af := ck_ (v := (.slice DWA ma.length DWc)) BDW 0 rfl; have ag := ck_ (v := (.slice DWB mn.length DWd)) BDW 1 rfl; have ah := ck_ (v := (.slice D4A l0.length D4c)) BD4 0 rfl; have ai := ck_ (v := (.slice D4B l1.length D4d)) BD4 1 rfl; have aj := ck_ (v := (.slice D6A l2.length D6c)) BD6 0 rfl; have ak := ck_ (v := (.slice D6B l3.length D6d)) BD6 1 rfl; refine ⟨_, rfl, ?_⟩)
      | ((with_reducible refine gate_callee (f := 24) rfl ?_); refine goesL_ (some 42) rfl rfl Try.func24 (by kernel_rfl) rfl #[.agg #[.slice D4A l0.length D4c, .slice D4B l1.length D4d], .agg #[.slice D6A l2.length D6c, .slice D6B l3.length D6d]] rfl (by (try simp only [List.map_toArray, List.map_cons, List.map_nil]); first | done | rfl) ?_; (with_reducible refine (impl_ConcatDfa.calls _ _ l0 _ _ l1 _ _ l2 _ _ l3 ma mn ok _ ?s1 D4s.out ?s2 D4t.out ?s3 D6s.out ?s4 D6t.out HKI.out).mono ?_); (case s1 => exact D4.out.c0); (case s2 => exact D4.out.c1); (case s3 => exact D6.out.c0); (case s4 => exact D6.out.c1); rintro e w8 ⟨b0_, b1_, rfl, hf0, hf1, hb⟩; (try clear aa); (try clear ab); (try clear ad); (try clear ae); (try clear af); (try clear ag); (try clear ah); (try clear ai); (try clear aj); (try clear ak); have p_DW_DG := am_ DWh.out; have p_D4_DG := am_ D4h.out; have p_D6_DG := am_ D6h.out; have p_BA0_DG := am_ (blk_lt BA0.out); have p_BA1_DG := am_ (blk_lt BA1.out); have p_BDW_DG := am_ (blk_lt BDW.out); have p_BD4_DG := am_ (blk_lt BD4.out); have p_BD6_DG := am_ (blk_lt BD6.out); have DGh : Aside0 (w8.heap.size ≤ w8.heap.size) := ⟨Nat.le_refl _⟩; have DG := am_ (Dv.fresh (base := w.heap.size) HB_.out.size hf0 hf1); replace HB_ := bt_ HB_ hb; replace BA0 := kb_ BA0 hb; replace BA1 := kb_ BA1 hb; replace BDW := kb_ BDW hb; replace BD4 := kb_ BD4 hb; replace BD6 := kb_ BD6 hb; replace DW := am_ (DW.out.below hb); replace D4 := am_ (D4.out.below hb); replace D6 := am_ (D6.out.below hb); have DWh := sz_ DWh hb; have D4h := sz_ D4h hb; have D6h := sz_ D6h hb; clear hf0 hf1 hb; obtain ⟨DGA, DGc, DGB, DGd, e0, e1, hs0, hs1⟩ := DG.out.slices; subst e0; subst e1; have DGs := am_ hs0; have DGt := am_ hs1; clear hs0 hs1; have p_DW_BDG := am_ DWh.out; have p_D4_BDG := am_ D4h.out; have p_D6_BDG := am_ D6h.out; have p_DG_BDG := am_ DGh.out; have BDG := am_ (blk_new w8 (Obj.cells #[.slice DGA ma.length DGc, .slice DGB mn.length DGd] 27)); replace HB_ := am_ (below_alloc HB_.out (Obj.cells #[.slice DGA ma.length DGc, .slice DGB mn.length DGd] 27)); replace BA0 := am_ (blk_alloc BA0.out (Obj.cells #[.slice DGA ma.length DGc, .slice DGB mn.length DGd] 27)); replace BA1 := am_ (blk_alloc BA1.out (Obj.cells #[.slice DGA ma.length DGc, .slice DGB mn.length DGd] 27)); replace BDW := am_ (blk_alloc BDW.out (Obj.cells #[.slice DGA ma.length DGc, .slice DGB mn.length DGd] 27)); replace BD4 := am_ (blk_alloc BD4.out (Obj.cells #[.slice DGA ma.length DGc, .slice DGB mn.length DGd] 27)); replace BD6 := am_ (blk_alloc BD6.out (Obj.cells #[.slice DGA ma.length DGc, .slice DGB mn.length DGd] 27)); replace DW := am_ (DW.out.below (below_alloc (Below.refl _ _) (Obj.cells #[.slice DGA ma.length DGc, .slice DGB mn.length DGd] 27))); replace D4 := am_ (D4.out.below (below_alloc (Below.refl _ _) (Obj.cells #[.slice DGA ma.length DGc, .slice DGB mn.length DGd] 27))); replace D6 := am_ (D6.out.below (below_alloc (Below.refl _ _) (Obj.cells #[.slice DGA ma.length DGc, .slice DGB mn.length DGd] 27))); replace DG := am_ (DG.out.below (below_alloc (Below.refl _ _) (Obj.cells #[.slice DGA ma.length DGc, .slice DGB mn.length DGd] 27))); have DWh := am_ (Nat.le_trans DWh.out (below_alloc (Below.refl _ _) (Obj.cells #[.slice DGA ma.length DGc, .slice DGB mn.length DGd] 27)).size); have D4h := am_ (Nat.le_trans D4h.out (below_alloc (Below.refl _ _) (Obj.cells #[.slice DGA ma.length DGc, .slice DGB mn.length DGd] 27)).size); have D6h := am_ (Nat.le_trans D6h.out (below_alloc (Below.refl _ _) (Obj.cells #[.slice DGA ma.length DGc, .slice DGB mn.length DGd] 27)).size); have DGh := am_ (Nat.le_trans DGh.out (below_alloc (Below.refl _ _) (Obj.cells #[.slice DGA ma.length DGc, .slice DGB mn.length DGd] 27)).size); have aa := ck_ (v := (.slice A0 l0.length c0)) BA0 0 rfl; have ab := ck_ (v := (.slice A1 l1.length c1)) BA0 1 rfl; have ad := ck_ (v := (.slice A2 l2.length c2)) BA1 0 rfl; have ae := ck_ (v := (.slice A3 l3.length c3)) BA1 1 rfl; have af := ck_ (v := (.slice DWA ma.length DWc)) BDW 0 rfl; have ag := ck_ (v := (.slice DWB mn.length DWd)) BDW 1 rfl; have ah := ck_ (v := (.slice D4A l0.length D4c)) BD4 0 rfl; have ai := ck_ (v := (.slice D4B l1.length D4d)) BD4 1 rfl; have aj := ck_ (v := (.slice D6A l2.length D6c)) BD6 0 rfl; have ak := ck_ (v := (.slice D6B l3.length D6d)) BD6 1 rfl; have al := ck_ (v := (.slice DGA ma.length DGc)) BDG 0 rfl; have am := ck_ (v := (.slice DGB mn.length DGd)) BDG 1 rfl; refine ⟨_, rfl, ?_⟩)
      | ((with_reducible refine gate_callee (f := 16) rfl ?_); refine goesL_ (some 47) rfl rfl Try.func16 (by kernel_rfl) rfl #[.agg #[.slice DGA ma.length DGc, .slice DGB mn.length DGd], .agg #[.slice DWA ma.length DWc, .slice DWB mn.length DWd]] rfl (by (try simp only [List.map_toArray, List.map_cons, List.map_nil]); first | done | rfl) ?_; (with_reducible refine (laws_eqDfa.calls keq _ _ ma _ _ mn _ _ ma _ _ mn true _ ?s1 DGs.out ?s2 DGt.out ?s3 DWs.out ?s4 DWt.out HKEq.out).mono ?_); (case s1 => exact DG.out.c0); (case s2 => exact DG.out.c1); (case s3 => exact DW.out.c0); (case s4 => exact DW.out.c1); rintro e w9 ⟨rfl, hb⟩; (try clear aa); (try clear ab); (try clear ad); (try clear ae); (try clear af); (try clear ag); (try clear ah); (try clear ai); (try clear aj); (try clear ak); (try clear al); (try clear am); replace HB_ := bt_ HB_ hb; replace BA0 := kb_ BA0 hb; replace BA1 := kb_ BA1 hb; replace BDW := kb_ BDW hb; replace BD4 := kb_ BD4 hb; replace BD6 := kb_ BD6 hb; replace BDG := kb_ BDG hb; replace DW := am_ (DW.out.below hb); replace D4 := am_ (D4.out.below hb); replace D6 := am_ (D6.out.below hb); replace DG := am_ (DG.out.below hb); have DWh := sz_ DWh hb; have D4h := sz_ D4h hb; have D6h := sz_ D6h hb; have DGh := sz_ DGh hb; clear hb; have aa := ck_ (v := (.slice A0 l0.length c0)) BA0 0 rfl; have ab := ck_ (v := (.slice A1 l1.length c1)) BA0 1 rfl; have ad := ck_ (v := (.slice A2 l2.length c2)) BA1 0 rfl; have ae := ck_ (v := (.slice A3 l3.length c3)) BA1 1 rfl; have af := ck_ (v := (.slice DWA ma.length DWc)) BDW 0 rfl; have ag := ck_ (v := (.slice DWB mn.length DWd)) BDW 1 rfl; have ah := ck_ (v := (.slice D4A l0.length D4c)) BD4 0 rfl; have ai := ck_ (v := (.slice D4B l1.length D4d)) BD4 1 rfl; have aj := ck_ (v := (.slice D6A l2.length D6c)) BD6 0 rfl; have ak := ck_ (v := (.slice D6B l3.length D6d)) BD6 1 rfl; have al := ck_ (v := (.slice DGA ma.length DGc)) BDG 0 rfl; have am := ck_ (v := (.slice DGB mn.length DGd)) BDG 1 rfl; refine ⟨_, rfl, ?_⟩))
    refine start_ (n := 5) (S := (fun w' => w'.cell? ⟨w6.heap.size, 0, none⟩ = some (.slice D4A l0.length D4c) ∧ w'.cell? ⟨w6.heap.size, 1, none⟩ = some (.slice D4B l1.length D4d) ∧ w'.cell? ⟨w.heap.size, 0, none⟩ = some (.slice A0 l0.length c0) ∧ w'.cell? ⟨w.heap.size, 1, none⟩ = some (.slice A1 l1.length c1))) (ds := []) #[false, false, false, false, false] (by kernel_rfl) rfl rfl (⟨(blk_cell BD4.out 0).trans rfl, (blk_cell BD4.out 1).trans rfl, (blk_cell BA0.out 0).trans rfl, (blk_cell BA0.out 1).trans rfl⟩) (fun hHeld => ?_); refine with_tabW tab14Ct bits14Ct (fun HT_ HW_ => ?_)
    (try clear aa)
    (try clear ab)
    (try clear ad)
    (try clear ae)
    (try clear af)
    (try clear ag)
    (try clear ah)
    (try clear ai)
    (try clear aj)
    (try clear ak)
    (try clear al)
    (try clear am)
    have hb := below_drew1 (Below.refl w9.heap.size w9)
    replace HB_ := bt_ HB_ hb
    replace BA0 := kb_ BA0 hb
    replace BA1 := kb_ BA1 hb
    replace BDW := kb_ BDW hb
    replace BD4 := kb_ BD4 hb
    replace BD6 := kb_ BD6 hb
    replace BDG := kb_ BDG hb
    replace DW := am_ (DW.out.below hb)
    replace D4 := am_ (D4.out.below hb)
    replace D6 := am_ (D6.out.below hb)
    replace DG := am_ (DG.out.below hb)
    have DWh := sz_ DWh hb
    have D4h := sz_ D4h hb
    have D6h := sz_ D6h hb
    have DGh := sz_ DGh hb
    clear hb
    generalize w9.drew = w10 at HB_ BA0 BA1 BDW BD4 BD6 BDG DW D4 D6 DG DWh D4h D6h DGh hHeld ⊢
    refine th_ 0 54 #[true, false, false, false, false] HT_ HW_ hHeld ?_
    refine th_ 1 55 #[true, true, false, false, false] HT_ HW_ hHeld ?_
    refine on_ 2 (some 56) #[true, true, true, false, false] HT_ (fun K hK => ?_)
    refine goes_ Try.func14 (by kernel_rfl) rfl #[.agg #[.slice A0 l0.length c0, .slice A1 l1.length c1]] (by rfl) rfl rfl (by (try simp only [List.map_toArray, List.map_cons, List.map_nil]); first | done | rfl) ?_
    with_reducible refine (laws_toDfa.calls kt0 _ _ l0 _ _ l1 l0 l1 _ ?s1 HC0.out ?s2 HC1.out HKT0.out).mono ?_
    (case s1 => exact Kd.C_below HR0.out HB_.out)
    (case s2 => exact Kd.C_below HR1.out HB_.out)
    rintro e w11 ⟨y0, y1, rfl, hf0, hf1, hb⟩
    refine ⟨_, rfl, ?_⟩
    have p_DW_DY0 := am_ DWh.out
    have p_D4_DY0 := am_ D4h.out
    have p_D6_DY0 := am_ D6h.out
    have p_DG_DY0 := am_ DGh.out
    have p_BA0_DY0 := am_ (blk_lt BA0.out)
    have p_BA1_DY0 := am_ (blk_lt BA1.out)
    have p_BDW_DY0 := am_ (blk_lt BDW.out)
    have p_BD4_DY0 := am_ (blk_lt BD4.out)
    have p_BD6_DY0 := am_ (blk_lt BD6.out)
    have p_BDG_DY0 := am_ (blk_lt BDG.out)
    have DY0h : Aside0 (w11.heap.size ≤ w11.heap.size) := ⟨Nat.le_refl _⟩
    have DY0 := am_ (Dv.fresh (base := w.heap.size) HB_.out.size hf0 hf1)
    replace HB_ := bt_ HB_ hb
    replace BA0 := kb_ BA0 hb
    replace BA1 := kb_ BA1 hb
    replace BDW := kb_ BDW hb
    replace BD4 := kb_ BD4 hb
    replace BD6 := kb_ BD6 hb
    replace BDG := kb_ BDG hb
    replace DW := am_ (DW.out.below hb)
    replace D4 := am_ (D4.out.below hb)
    replace D6 := am_ (D6.out.below hb)
    replace DG := am_ (DG.out.below hb)
    have DWh := sz_ DWh hb
    have D4h := sz_ D4h hb
    have D6h := sz_ D6h hb
    have DGh := sz_ DGh hb
    clear hf0 hf1 hb
    obtain ⟨DY0A, DY0c, DY0B, DY0d, e0, e1, hs0, hs1⟩ := DY0.out.slices
    subst e0
    subst e1
    have DY0s := am_ hs0
    have DY0t := am_ hs1
    clear hs0 hs1
    refine hK.out _ _ (⟨(blk_cell BD4.out 0).trans rfl, (blk_cell BD4.out 1).trans rfl, (blk_cell BA0.out 0).trans rfl, (blk_cell BA0.out 1).trans rfl⟩) (fun hHeld => ?_)
    clear hK K
    refine nm_ 56 ?_
    refine on_ 3 (some 57) #[true, true, true, true, false] HT_ (fun K hK => ?_)
    refine goes_ Try.func16 (by kernel_rfl) rfl #[.agg #[.slice D4A l0.length D4c, .slice D4B l1.length D4d], .agg #[.slice DY0A l0.length DY0c, .slice DY0B l1.length DY0d]] (by rfl) rfl rfl (by (try simp only [List.map_toArray, List.map_cons, List.map_nil]); first | done | rfl) ?_
    with_reducible refine (laws_eqDfa.calls ke0 _ _ l0 _ _ l1 _ _ l0 _ _ l1 true _ ?s1 D4s.out ?s2 D4t.out ?s3 DY0s.out ?s4 DY0t.out HKE0.out).mono ?_
    (case s1 => exact D4.out.c0)
    (case s2 => exact D4.out.c1)
    (case s3 => exact DY0.out.c0)
    (case s4 => exact DY0.out.c1)
    rintro e w12 ⟨rfl, hb⟩
    refine ⟨_, rfl, ?_⟩
    replace HB_ := bt_ HB_ hb
    replace BA0 := kb_ BA0 hb
    replace BA1 := kb_ BA1 hb
    replace BDW := kb_ BDW hb
    replace BD4 := kb_ BD4 hb
    replace BD6 := kb_ BD6 hb
    replace BDG := kb_ BDG hb
    replace DW := am_ (DW.out.below hb)
    replace D4 := am_ (D4.out.below hb)
    replace D6 := am_ (D6.out.below hb)
    replace DG := am_ (DG.out.below hb)
    replace DY0 := am_ (DY0.out.below hb)
    have DWh := sz_ DWh hb
    have D4h := sz_ D4h hb
    have D6h := sz_ D6h hb
    have DGh := sz_ DGh hb
    have DY0h := sz_ DY0h hb
    clear hb
    refine hK.out _ _ (⟨(blk_cell BD4.out 0).trans rfl, (blk_cell BD4.out 1).trans rfl, (blk_cell BA0.out 0).trans rfl, (blk_cell BA0.out 1).trans rfl⟩) (fun hHeld => ?_)
    clear hK K
    refine nm_ 57 ?_
    refine ph_ 4 58 #[true, true, true, true, true] HT_ ?_
    refine done_ (done_of HT_.out (by kernel_rfl)) ?_
    clear HT_ HW_ hHeld DY0 DY0s DY0t DY0h
    have aa := ck_ (v := (.slice A0 l0.length c0)) BA0 0 rfl
    have ab := ck_ (v := (.slice A1 l1.length c1)) BA0 1 rfl
    have ad := ck_ (v := (.slice A2 l2.length c2)) BA1 0 rfl
    have ae := ck_ (v := (.slice A3 l3.length c3)) BA1 1 rfl
    have af := ck_ (v := (.slice DWA ma.length DWc)) BDW 0 rfl
    have ag := ck_ (v := (.slice DWB mn.length DWd)) BDW 1 rfl
    have ah := ck_ (v := (.slice D4A l0.length D4c)) BD4 0 rfl
    have ai := ck_ (v := (.slice D4B l1.length D4d)) BD4 1 rfl
    have aj := ck_ (v := (.slice D6A l2.length D6c)) BD6 0 rfl
    have ak := ck_ (v := (.slice D6B l3.length D6d)) BD6 1 rfl
    have al := ck_ (v := (.slice DGA ma.length DGc)) BDG 0 rfl
    have am := ck_ (v := (.slice DGB mn.length DGd)) BDG 1 rfl
    go_wp2
    refine start_ (n := 5) (S := (fun w' => w'.cell? ⟨w7.heap.size, 0, none⟩ = some (.slice D6A l2.length D6c) ∧ w'.cell? ⟨w7.heap.size, 1, none⟩ = some (.slice D6B l3.length D6d) ∧ w'.cell? ⟨w.heap.size + 1, 0, none⟩ = some (.slice A2 l2.length c2) ∧ w'.cell? ⟨w.heap.size + 1, 1, none⟩ = some (.slice A3 l3.length c3))) (ds := []) #[false, false, false, false, false] (by kernel_rfl) rfl rfl (⟨(blk_cell BD6.out 0).trans rfl, (blk_cell BD6.out 1).trans rfl, (blk_cell BA1.out 0).trans rfl, (blk_cell BA1.out 1).trans rfl⟩) (fun hHeld => ?_); refine with_tabW tab16Ct bits16Ct (fun HT_ HW_ => ?_)
    (try clear aa)
    (try clear ab)
    (try clear ad)
    (try clear ae)
    (try clear af)
    (try clear ag)
    (try clear ah)
    (try clear ai)
    (try clear aj)
    (try clear ak)
    (try clear al)
    (try clear am)
    have hb := below_drew1 (Below.refl w12.heap.size w12)
    replace HB_ := bt_ HB_ hb
    replace BA0 := kb_ BA0 hb
    replace BA1 := kb_ BA1 hb
    replace BDW := kb_ BDW hb
    replace BD4 := kb_ BD4 hb
    replace BD6 := kb_ BD6 hb
    replace BDG := kb_ BDG hb
    replace DW := am_ (DW.out.below hb)
    replace D4 := am_ (D4.out.below hb)
    replace D6 := am_ (D6.out.below hb)
    replace DG := am_ (DG.out.below hb)
    have DWh := sz_ DWh hb
    have D4h := sz_ D4h hb
    have D6h := sz_ D6h hb
    have DGh := sz_ DGh hb
    clear hb
    generalize w12.drew = w13 at HB_ BA0 BA1 BDW BD4 BD6 BDG DW D4 D6 DG DWh D4h D6h DGh hHeld ⊢
    refine th_ 0 59 #[true, false, false, false, false] HT_ HW_ hHeld ?_
    refine th_ 1 60 #[true, true, false, false, false] HT_ HW_ hHeld ?_
    refine on_ 2 (some 61) #[true, true, true, false, false] HT_ (fun K hK => ?_)
    refine goes_ Try.func14 (by kernel_rfl) rfl #[.agg #[.slice A2 l2.length c2, .slice A3 l3.length c3]] (by rfl) rfl rfl (by (try simp only [List.map_toArray, List.map_cons, List.map_nil]); first | done | rfl) ?_
    with_reducible refine (laws_toDfa.calls kt1 _ _ l2 _ _ l3 l2 l3 _ ?s1 HC2.out ?s2 HC3.out HKT1.out).mono ?_
    (case s1 => exact Kd.C_below HR2.out HB_.out)
    (case s2 => exact Kd.C_below HR3.out HB_.out)
    rintro e w14 ⟨y0, y1, rfl, hf0, hf1, hb⟩
    refine ⟨_, rfl, ?_⟩
    have p_DW_DY1 := am_ DWh.out
    have p_D4_DY1 := am_ D4h.out
    have p_D6_DY1 := am_ D6h.out
    have p_DG_DY1 := am_ DGh.out
    have p_BA0_DY1 := am_ (blk_lt BA0.out)
    have p_BA1_DY1 := am_ (blk_lt BA1.out)
    have p_BDW_DY1 := am_ (blk_lt BDW.out)
    have p_BD4_DY1 := am_ (blk_lt BD4.out)
    have p_BD6_DY1 := am_ (blk_lt BD6.out)
    have p_BDG_DY1 := am_ (blk_lt BDG.out)
    have DY1h : Aside0 (w14.heap.size ≤ w14.heap.size) := ⟨Nat.le_refl _⟩
    have DY1 := am_ (Dv.fresh (base := w.heap.size) HB_.out.size hf0 hf1)
    replace HB_ := bt_ HB_ hb
    replace BA0 := kb_ BA0 hb
    replace BA1 := kb_ BA1 hb
    replace BDW := kb_ BDW hb
    replace BD4 := kb_ BD4 hb
    replace BD6 := kb_ BD6 hb
    replace BDG := kb_ BDG hb
    replace DW := am_ (DW.out.below hb)
    replace D4 := am_ (D4.out.below hb)
    replace D6 := am_ (D6.out.below hb)
    replace DG := am_ (DG.out.below hb)
    have DWh := sz_ DWh hb
    have D4h := sz_ D4h hb
    have D6h := sz_ D6h hb
    have DGh := sz_ DGh hb
    clear hf0 hf1 hb
    obtain ⟨DY1A, DY1c, DY1B, DY1d, e0, e1, hs0, hs1⟩ := DY1.out.slices
    subst e0
    subst e1
    have DY1s := am_ hs0
    have DY1t := am_ hs1
    clear hs0 hs1
    refine hK.out _ _ (⟨(blk_cell BD6.out 0).trans rfl, (blk_cell BD6.out 1).trans rfl, (blk_cell BA1.out 0).trans rfl, (blk_cell BA1.out 1).trans rfl⟩) (fun hHeld => ?_)
    clear hK K
    refine nm_ 61 ?_
    refine on_ 3 (some 62) #[true, true, true, true, false] HT_ (fun K hK => ?_)
    refine goes_ Try.func16 (by kernel_rfl) rfl #[.agg #[.slice D6A l2.length D6c, .slice D6B l3.length D6d], .agg #[.slice DY1A l2.length DY1c, .slice DY1B l3.length DY1d]] (by rfl) rfl rfl (by (try simp only [List.map_toArray, List.map_cons, List.map_nil]); first | done | rfl) ?_
    with_reducible refine (laws_eqDfa.calls ke2 _ _ l2 _ _ l3 _ _ l2 _ _ l3 true _ ?s1 D6s.out ?s2 D6t.out ?s3 DY1s.out ?s4 DY1t.out HKE2.out).mono ?_
    (case s1 => exact D6.out.c0)
    (case s2 => exact D6.out.c1)
    (case s3 => exact DY1.out.c0)
    (case s4 => exact DY1.out.c1)
    rintro e w15 ⟨rfl, hb⟩
    refine ⟨_, rfl, ?_⟩
    replace HB_ := bt_ HB_ hb
    replace BA0 := kb_ BA0 hb
    replace BA1 := kb_ BA1 hb
    replace BDW := kb_ BDW hb
    replace BD4 := kb_ BD4 hb
    replace BD6 := kb_ BD6 hb
    replace BDG := kb_ BDG hb
    replace DW := am_ (DW.out.below hb)
    replace D4 := am_ (D4.out.below hb)
    replace D6 := am_ (D6.out.below hb)
    replace DG := am_ (DG.out.below hb)
    replace DY1 := am_ (DY1.out.below hb)
    have DWh := sz_ DWh hb
    have D4h := sz_ D4h hb
    have D6h := sz_ D6h hb
    have DGh := sz_ DGh hb
    have DY1h := sz_ DY1h hb
    clear hb
    refine hK.out _ _ (⟨(blk_cell BD6.out 0).trans rfl, (blk_cell BD6.out 1).trans rfl, (blk_cell BA1.out 0).trans rfl, (blk_cell BA1.out 1).trans rfl⟩) (fun hHeld => ?_)
    clear hK K
    refine nm_ 62 ?_
    refine ph_ 4 63 #[true, true, true, true, true] HT_ ?_
    refine done_ (done_of HT_.out (by kernel_rfl)) ?_
    clear HT_ HW_ hHeld DY1 DY1s DY1t DY1h
    have aa := ck_ (v := (.slice A0 l0.length c0)) BA0 0 rfl
    have ab := ck_ (v := (.slice A1 l1.length c1)) BA0 1 rfl
    have ad := ck_ (v := (.slice A2 l2.length c2)) BA1 0 rfl
    have ae := ck_ (v := (.slice A3 l3.length c3)) BA1 1 rfl
    have af := ck_ (v := (.slice DWA ma.length DWc)) BDW 0 rfl
    have ag := ck_ (v := (.slice DWB mn.length DWd)) BDW 1 rfl
    have ah := ck_ (v := (.slice D4A l0.length D4c)) BD4 0 rfl
    have ai := ck_ (v := (.slice D4B l1.length D4d)) BD4 1 rfl
    have aj := ck_ (v := (.slice D6A l2.length D6c)) BD6 0 rfl
    have ak := ck_ (v := (.slice D6B l3.length D6d)) BD6 1 rfl
    have al := ck_ (v := (.slice DGA ma.length DGc)) BDG 0 rfl
    have am := ck_ (v := (.slice DGB mn.length DGd)) BDG 1 rfl
    go_wp2_with (first
      | ((with_reducible refine gate_callee (f := 17) rfl ?_); refine goesL_ (some 66) rfl rfl Try.func17 (by kernel_rfl) rfl #[.agg #[.slice D4A l0.length D4c, .slice D4B l1.length D4d], .int .i64 1] rfl (by (try simp only [List.map_toArray, List.map_cons, List.map_nil]); first | done | rfl) ?_; (with_reducible refine (markDv (w0 := w) 1 HB_.out D4.out ?s1 ?s2 ?s3 ?s4).mono ?_); (case s1 => exact by have := HS0.out; omega); (case s2 => exact by have := HS0.out; omega); (case s3 => exact fun x hx => by have := HS0.out.2.2 x hx; omega); (case s4 => exact by omega); rintro e w16 ⟨rfl, hd, hb, hk⟩; (try clear aa); (try clear ab); (try clear ad); (try clear ae); (try clear af); (try clear ag); (try clear ah); (try clear ai); (try clear aj); (try clear ak); (try clear al); (try clear am); replace HB_ := am_ hb; replace D4 := am_ hd; replace BA0 := am_ (blk_kept BA0.out hk (by have := p_BA0_D4.out; omega)); replace BA1 := am_ (blk_kept BA1.out hk (by have := p_BA1_D4.out; omega)); replace BDW := am_ (blk_kept BDW.out hk (by have := p_BDW_D4.out; omega)); replace BD4 := am_ (blk_kept BD4.out hk (by have := p_D4_BD4.out; omega)); replace BD6 := am_ (blk_kept BD6.out hk (by have := p_D4_BD6.out; omega)); replace BDG := am_ (blk_kept BDG.out hk (by have := p_D4_BDG.out; omega)); replace DW := am_ (DW.out.kept hk (fun k h1 h2 => by have := p_DW_D4.out; omega)); replace D6 := am_ (D6.out.kept hk (fun k h1 h2 => by have := p_D4_D6.out; omega)); replace DG := am_ (DG.out.kept hk (fun k h1 h2 => by have := p_D4_DG.out; omega)); have DWh := am_ (Nat.le_trans DWh.out hk.1); have D4h := am_ (Nat.le_trans D4h.out hk.1); have D6h := am_ (Nat.le_trans D6h.out hk.1); have DGh := am_ (Nat.le_trans DGh.out hk.1); clear hd hb hk; have aa := ck_ (v := (.slice A0 l0.length c0)) BA0 0 rfl; have ab := ck_ (v := (.slice A1 l1.length c1)) BA0 1 rfl; have ad := ck_ (v := (.slice A2 l2.length c2)) BA1 0 rfl; have ae := ck_ (v := (.slice A3 l3.length c3)) BA1 1 rfl; have af := ck_ (v := (.slice DWA ma.length DWc)) BDW 0 rfl; have ag := ck_ (v := (.slice DWB mn.length DWd)) BDW 1 rfl; have ah := ck_ (v := (.slice D4A l0.length D4c)) BD4 0 rfl; have ai := ck_ (v := (.slice D4B l1.length D4d)) BD4 1 rfl; have aj := ck_ (v := (.slice D6A l2.length D6c)) BD6 0 rfl; have ak := ck_ (v := (.slice D6B l3.length D6d)) BD6 1 rfl; have al := ck_ (v := (.slice DGA ma.length DGc)) BDG 0 rfl; have am := ck_ (v := (.slice DGB mn.length DGd)) BDG 1 rfl; refine ⟨_, rfl, ?_⟩)
      | ((with_reducible refine gate_callee (f := 17) rfl ?_); refine goesL_ (some 69) rfl rfl Try.func17 (by kernel_rfl) rfl #[.agg #[.slice D6A l2.length D6c, .slice D6B l3.length D6d], .int .i64 (mkK l1 (1 + (l0.length : Int)))] rfl (by (try simp only [List.map_toArray, List.map_cons, List.map_nil]); first | done | rfl) ?_; (with_reducible refine (markDv (w0 := w) (mkK l1 (1 + (l0.length : Int))) HB_.out D6.out ?s1 ?s2 ?s3 ?s4).mono ?_); (case s1 => exact by have := HS1.out; omega); (case s2 => exact by have := HS1.out; omega); (case s3 => exact fun x hx => by have := HS1.out.2.2 x hx; omega); (case s4 => exact by have := HMK0.out; omega); rintro e w17 ⟨rfl, hd, hb, hk⟩; (try clear aa); (try clear ab); (try clear ad); (try clear ae); (try clear af); (try clear ag); (try clear ah); (try clear ai); (try clear aj); (try clear ak); (try clear al); (try clear am); replace HB_ := am_ hb; replace D6 := am_ hd; replace BA0 := am_ (blk_kept BA0.out hk (by have := p_BA0_D6.out; omega)); replace BA1 := am_ (blk_kept BA1.out hk (by have := p_BA1_D6.out; omega)); replace BDW := am_ (blk_kept BDW.out hk (by have := p_BDW_D6.out; omega)); replace BD4 := am_ (blk_kept BD4.out hk (by have := p_BD4_D6.out; omega)); replace BD6 := am_ (blk_kept BD6.out hk (by have := p_D6_BD6.out; omega)); replace BDG := am_ (blk_kept BDG.out hk (by have := p_D6_BDG.out; omega)); replace DW := am_ (DW.out.kept hk (fun k h1 h2 => by have := p_DW_D6.out; omega)); replace D4 := am_ (D4.out.kept hk (fun k h1 h2 => by have := p_D4_D6.out; omega)); replace DG := am_ (DG.out.kept hk (fun k h1 h2 => by have := p_D6_DG.out; omega)); have DWh := am_ (Nat.le_trans DWh.out hk.1); have D4h := am_ (Nat.le_trans D4h.out hk.1); have D6h := am_ (Nat.le_trans D6h.out hk.1); have DGh := am_ (Nat.le_trans DGh.out hk.1); clear hd hb hk; have aa := ck_ (v := (.slice A0 l0.length c0)) BA0 0 rfl; have ab := ck_ (v := (.slice A1 l1.length c1)) BA0 1 rfl; have ad := ck_ (v := (.slice A2 l2.length c2)) BA1 0 rfl; have ae := ck_ (v := (.slice A3 l3.length c3)) BA1 1 rfl; have af := ck_ (v := (.slice DWA ma.length DWc)) BDW 0 rfl; have ag := ck_ (v := (.slice DWB mn.length DWd)) BDW 1 rfl; have ah := ck_ (v := (.slice D4A l0.length D4c)) BD4 0 rfl; have ai := ck_ (v := (.slice D4B l1.length D4d)) BD4 1 rfl; have aj := ck_ (v := (.slice D6A l2.length D6c)) BD6 0 rfl; have ak := ck_ (v := (.slice D6B l3.length D6d)) BD6 1 rfl; have al := ck_ (v := (.slice DGA ma.length DGc)) BDG 0 rfl; have am := ck_ (v := (.slice DGB mn.length DGd)) BDG 1 rfl; refine ⟨_, rfl, ?_⟩)
      | (go_at_call 16; (with_reducible refine (laws_eqDfa.calls keq _ _ ma _ _ mn _ _ ma _ _ mn true _ ?s1 DGs.out ?s2 DGt.out ?s3 DWs.out ?s4 DWt.out HKEq.out).mono ?_); (case s1 => exact DG.out.c0); (case s2 => exact DG.out.c1); (case s3 => exact DW.out.c0); (case s4 => exact DW.out.c1); rintro e w18 ⟨rfl, hb⟩; (try clear aa); (try clear ab); (try clear ad); (try clear ae); (try clear af); (try clear ag); (try clear ah); (try clear ai); (try clear aj); (try clear ak); (try clear al); (try clear am); replace HB_ := bt_ HB_ hb; replace BA0 := kb_ BA0 hb; replace BA1 := kb_ BA1 hb; replace BDW := kb_ BDW hb; replace BD4 := kb_ BD4 hb; replace BD6 := kb_ BD6 hb; replace BDG := kb_ BDG hb; replace DW := am_ (DW.out.below hb); replace D4 := am_ (D4.out.below hb); replace D6 := am_ (D6.out.below hb); replace DG := am_ (DG.out.below hb); have DWh := sz_ DWh hb; have D4h := sz_ D4h hb; have D6h := sz_ D6h hb; have DGh := sz_ DGh hb; clear hb; have aa := ck_ (v := (.slice A0 l0.length c0)) BA0 0 rfl; have ab := ck_ (v := (.slice A1 l1.length c1)) BA0 1 rfl; have ad := ck_ (v := (.slice A2 l2.length c2)) BA1 0 rfl; have ae := ck_ (v := (.slice A3 l3.length c3)) BA1 1 rfl; have af := ck_ (v := (.slice DWA ma.length DWc)) BDW 0 rfl; have ag := ck_ (v := (.slice DWB mn.length DWd)) BDW 1 rfl; have ah := ck_ (v := (.slice D4A l0.length D4c)) BD4 0 rfl; have ai := ck_ (v := (.slice D4B l1.length D4d)) BD4 1 rfl; have aj := ck_ (v := (.slice D6A l2.length D6c)) BD6 0 rfl; have ak := ck_ (v := (.slice D6B l3.length D6d)) BD6 1 rfl; have al := ck_ (v := (.slice DGA ma.length DGc)) BDG 0 rfl; have am := ck_ (v := (.slice DGB mn.length DGd)) BDG 1 rfl)
      | ((with_reducible refine gate_callee (f := 17) rfl ?_); refine goesL_ (some 85) rfl rfl Try.func17 (by kernel_rfl) rfl #[.agg #[.slice DGA ma.length DGc, .slice DGB mn.length DGd], .int .i64 1] rfl (by (try simp only [List.map_toArray, List.map_cons, List.map_nil]); first | done | rfl) ?_; (with_reducible refine (markDv (w0 := w) 1 HB_.out DG.out ?s1 ?s2 ?s3 ?s4).mono ?_); (case s1 => exact by have := HM.out; omega); (case s2 => exact by have := HM.out; omega); (case s3 => exact fun x hx => by have := HM.out.2.2 x hx; omega); (case s4 => exact by omega); rintro e w19 ⟨rfl, hd, hb, hk⟩; (try clear aa); (try clear ab); (try clear ad); (try clear ae); (try clear af); (try clear ag); (try clear ah); (try clear ai); (try clear aj); (try clear ak); (try clear al); (try clear am); replace HB_ := am_ hb; replace DG := am_ hd; replace BA0 := am_ (blk_kept BA0.out hk (by have := p_BA0_DG.out; omega)); replace BA1 := am_ (blk_kept BA1.out hk (by have := p_BA1_DG.out; omega)); replace BDW := am_ (blk_kept BDW.out hk (by have := p_BDW_DG.out; omega)); replace BD4 := am_ (blk_kept BD4.out hk (by have := p_BD4_DG.out; omega)); replace BD6 := am_ (blk_kept BD6.out hk (by have := p_BD6_DG.out; omega)); replace BDG := am_ (blk_kept BDG.out hk (by have := p_DG_BDG.out; omega)); replace DW := am_ (DW.out.kept hk (fun k h1 h2 => by have := p_DW_DG.out; omega)); replace D4 := am_ (D4.out.kept hk (fun k h1 h2 => by have := p_D4_DG.out; omega)); replace D6 := am_ (D6.out.kept hk (fun k h1 h2 => by have := p_D6_DG.out; omega)); have DWh := am_ (Nat.le_trans DWh.out hk.1); have D4h := am_ (Nat.le_trans D4h.out hk.1); have D6h := am_ (Nat.le_trans D6h.out hk.1); have DGh := am_ (Nat.le_trans DGh.out hk.1); clear hd hb hk; have aa := ck_ (v := (.slice A0 l0.length c0)) BA0 0 rfl; have ab := ck_ (v := (.slice A1 l1.length c1)) BA0 1 rfl; have ad := ck_ (v := (.slice A2 l2.length c2)) BA1 0 rfl; have ae := ck_ (v := (.slice A3 l3.length c3)) BA1 1 rfl; have af := ck_ (v := (.slice DWA ma.length DWc)) BDW 0 rfl; have ag := ck_ (v := (.slice DWB mn.length DWd)) BDW 1 rfl; have ah := ck_ (v := (.slice D4A l0.length D4c)) BD4 0 rfl; have ai := ck_ (v := (.slice D4B l1.length D4d)) BD4 1 rfl; have aj := ck_ (v := (.slice D6A l2.length D6c)) BD6 0 rfl; have ak := ck_ (v := (.slice D6B l3.length D6d)) BD6 1 rfl; have al := ck_ (v := (.slice DGA ma.length DGc)) BDG 0 rfl; have am := ck_ (v := (.slice DGB mn.length DGd)) BDG 1 rfl; refine ⟨_, rfl, ?_⟩)
      | ((with_reducible refine gate_callee (f := 18) rfl ?_); refine goesL_ (some 88) rfl rfl Try.func18 (by kernel_rfl) rfl #[.agg #[.slice DGA ma.length DGc, .slice DGB mn.length DGd], .int .i64 1] rfl (by (try simp only [List.map_toArray, List.map_cons, List.map_nil]); first | done | rfl) ?_; (with_reducible refine (heldDv DG.out ?s1 ?s2 ?s3).mono ?_); (case s1 => exact by have := HM.out; omega); (case s2 => exact by have := HM.out; omega); (case s3 => exact fun x hx => by have := HM.out.2.2 x hx; omega); rintro e w20 ⟨rfl, hb⟩; (try clear aa); (try clear ab); (try clear ad); (try clear ae); (try clear af); (try clear ag); (try clear ah); (try clear ai); (try clear aj); (try clear ak); (try clear al); (try clear am); replace HB_ := bt_ HB_ hb; replace BA0 := kb_ BA0 hb; replace BA1 := kb_ BA1 hb; replace BDW := kb_ BDW hb; replace BD4 := kb_ BD4 hb; replace BD6 := kb_ BD6 hb; replace BDG := kb_ BDG hb; replace DW := am_ (DW.out.below hb); replace D4 := am_ (D4.out.below hb); replace D6 := am_ (D6.out.below hb); replace DG := am_ (DG.out.below hb); have DWh := sz_ DWh hb; have D4h := sz_ D4h hb; have D6h := sz_ D6h hb; have DGh := sz_ DGh hb; clear hb; have aa := ck_ (v := (.slice A0 l0.length c0)) BA0 0 rfl; have ab := ck_ (v := (.slice A1 l1.length c1)) BA0 1 rfl; have ad := ck_ (v := (.slice A2 l2.length c2)) BA1 0 rfl; have ae := ck_ (v := (.slice A3 l3.length c3)) BA1 1 rfl; have af := ck_ (v := (.slice DWA ma.length DWc)) BDW 0 rfl; have ag := ck_ (v := (.slice DWB mn.length DWd)) BDW 1 rfl; have ah := ck_ (v := (.slice D4A l0.length D4c)) BD4 0 rfl; have ai := ck_ (v := (.slice D4B l1.length D4d)) BD4 1 rfl; have aj := ck_ (v := (.slice D6A l2.length D6c)) BD6 0 rfl; have ak := ck_ (v := (.slice D6B l3.length D6d)) BD6 1 rfl; have al := ck_ (v := (.slice DGA ma.length DGc)) BDG 0 rfl; have am := ck_ (v := (.slice DGB mn.length DGd)) BDG 1 rfl; refine ⟨_, rfl, ?_⟩))
    refine start_ (n := 11) (S := (fun w' => w'.cell? ⟨w.heap.size, 0, none⟩ = some (.slice A0 l0.length c0) ∧ w'.cell? ⟨w.heap.size, 1, none⟩ = some (.slice A1 l1.length c1) ∧ w'.cell? ⟨w.heap.size + 1, 0, none⟩ = some (.slice A2 l2.length c2) ∧ w'.cell? ⟨w.heap.size + 1, 1, none⟩ = some (.slice A3 l3.length c3))) (ds := [9]) (bl 11 0) (by kernel_rfl) rfl rfl (⟨(blk_cell BA0.out 0).trans rfl, (blk_cell BA0.out 1).trans rfl, (blk_cell BA1.out 0).trans rfl, (blk_cell BA1.out 1).trans rfl⟩) (fun hHeld => ?_); refine with_tabW tab31Ct bits31Ct (fun HT_ HW_ => ?_)
    (try clear aa)
    (try clear ab)
    (try clear ad)
    (try clear ae)
    (try clear af)
    (try clear ag)
    (try clear ah)
    (try clear ai)
    (try clear aj)
    (try clear ak)
    (try clear al)
    (try clear am)
    have hb := below_drew1 (Below.refl w20.heap.size w20)
    replace HB_ := bt_ HB_ hb
    replace BA0 := kb_ BA0 hb
    replace BA1 := kb_ BA1 hb
    replace BDW := kb_ BDW hb
    replace BD4 := kb_ BD4 hb
    replace BD6 := kb_ BD6 hb
    replace BDG := kb_ BDG hb
    replace DW := am_ (DW.out.below hb)
    replace D4 := am_ (D4.out.below hb)
    replace D6 := am_ (D6.out.below hb)
    replace DG := am_ (DG.out.below hb)
    have DWh := sz_ DWh hb
    have D4h := sz_ D4h hb
    have D6h := sz_ D6h hb
    have DGh := sz_ DGh hb
    clear hb
    generalize w20.drew = w21 at HB_ BA0 BA1 BDW BD4 BD6 BDG DW D4 D6 DG DWh D4h D6h DGh hHeld ⊢
    refine th_ 0 95 (bl 11 1) HT_ HW_ hHeld ?_
    refine th_ 2 97 (bl 11 5) HT_ HW_ hHeld ?_
    refine join_ (σ := Value × Value × Value × Value × Nat) 2 (bl 11 511) (fun s_ => [(96, s_.1), (98, s_.2.1), (99, .tuple #[.agg #[s_.2.2.1, s_.2.2.2.1], .bool ok]), (15, .pointer (some ⟨s_.2.2.2.2, 0, none⟩)), (94, .tuple #[.agg #[s_.2.2.1, s_.2.2.2.1], .bool ok]), (100, .agg #[s_.2.2.1, s_.2.2.2.1]), (101, .bool ok)]) (fun s_ w' => (fun w' => w'.cell? ⟨w.heap.size, 0, none⟩ = some (.slice A0 l0.length c0) ∧ w'.cell? ⟨w.heap.size, 1, none⟩ = some (.slice A1 l1.length c1) ∧ w'.cell? ⟨w.heap.size + 1, 0, none⟩ = some (.slice A2 l2.length c2) ∧ w'.cell? ⟨w.heap.size + 1, 1, none⟩ = some (.slice A3 l3.length c3)) w' ∧ Below w21.heap.size w21 w' ∧ (∃ lo hi : Nat, Dv w.heap.size w' lo hi s_.2.2.1 s_.2.2.2.1 ma mn ∧ w21.heap.size ≤ lo ∧ hi ≤ w'.heap.size) ∧ w'.heap[s_.2.2.2.2]? = some (.cells #[.slice none 0 0, .slice none 0 0] 27 (0, 0)) ∧ w21.heap.size ≤ s_.2.2.2.2) ?_ ?_
    rotate_left
    · intro hCont
      have HBw := am_ (Below.refl w21.heap.size w21)
      refine two_ (i := 1) (j := 8) (Ni := some 96) (Nj := some 15) (bl 11 7) (bl 11 261) rfl rfl rfl rfl (two_of HT_.out (by kernel_rfl)) (by decide) (by decide) (fun K hK => ?_) (fun K hK => ?_)
      · skip
        refine goes_ Try.func14 (by kernel_rfl) rfl #[.agg #[.slice A0 l0.length c0, .slice A1 l1.length c1]] (by rfl) rfl rfl (by (try simp only [List.map_toArray, List.map_cons, List.map_nil]); first | done | rfl) ?_
        with_reducible refine (laws_toDfa.calls kt0 _ _ l0 _ _ l1 l0 l1 _ ?s1 HC0.out ?s2 HC1.out HKT0.out).mono ?_
        (case s1 => exact Kd.C_below HR0.out (below_then HB_.out HB_.out.size HBw.out))
        (case s2 => exact Kd.C_below HR1.out (below_then HB_.out HB_.out.size HBw.out))
        rintro e wc1 ⟨y0, y1, rfl, hf0, hf1, hb⟩
        refine ⟨_, rfl, ?_⟩
        have HE0 := am_ (Dv.fresh (base := w.heap.size) (Nat.le_trans HB_.out.size HBw.out.size) hf0 hf1)
        have HE0l := am_ HBw.out.size
        replace HBw := bt_ HBw hb
        obtain ⟨E0A, E0c, E0B, E0d, e0, e1, hs0, hs1⟩ := HE0.out.slices
        subst e0
        subst e1
        have HE0s := am_ hs0
        have HE0t := am_ hs1
        clear hs0 hs1 hf0 hf1
        refine hK.out _ _ (pb4_ hb hHeld) (fun hHeld => ?_)
        clear hK K hb
        refine nm_ 96 ?_
        refine two_ (i := 3) (j := 8) (Ni := some 98) (Nj := some 15) (bl 11 15) (bl 11 263) rfl rfl rfl rfl (two_of HT_.out (by kernel_rfl)) (by decide) (by decide) (fun K hK => ?_) (fun K hK => ?_)
        · skip
          refine goes_ Try.func14 (by kernel_rfl) rfl #[.agg #[.slice A2 l2.length c2, .slice A3 l3.length c3]] (by rfl) rfl rfl (by (try simp only [List.map_toArray, List.map_cons, List.map_nil]); first | done | rfl) ?_
          with_reducible refine (laws_toDfa.calls kt1 _ _ l2 _ _ l3 l2 l3 _ ?s1 HC2.out ?s2 HC3.out HKT1.out).mono ?_
          (case s1 => exact Kd.C_below HR2.out (below_then HB_.out HB_.out.size HBw.out))
          (case s2 => exact Kd.C_below HR3.out (below_then HB_.out HB_.out.size HBw.out))
          rintro e wc2 ⟨y0, y1, rfl, hf0, hf1, hb⟩
          refine ⟨_, rfl, ?_⟩
          have HE1 := am_ (Dv.fresh (base := w.heap.size) (Nat.le_trans HB_.out.size HBw.out.size) hf0 hf1)
          have HE1l := am_ HBw.out.size
          replace HBw := bt_ HBw hb
          replace HE0 := am_ (HE0.out.below hb)
          obtain ⟨E1A, E1c, E1B, E1d, e0, e1, hs0, hs1⟩ := HE1.out.slices
          subst e0
          subst e1
          have HE1s := am_ hs0
          have HE1t := am_ hs1
          clear hs0 hs1 hf0 hf1
          refine hK.out _ _ (pb4_ hb hHeld) (fun hHeld => ?_)
          clear hK K hb
          refine nm_ 98 ?_
          refine two_ (i := 4) (j := 8) (Ni := some 99) (Nj := some 15) (bl 11 31) (bl 11 271) rfl rfl rfl rfl (two_of HT_.out (by kernel_rfl)) (by decide) (by decide) (fun K hK => ?_) (fun K hK => ?_)
          · skip
            refine goes_ Try.func24 (by kernel_rfl) rfl #[.agg #[.slice E0A l0.length E0c, .slice E0B l1.length E0d], .agg #[.slice E1A l2.length E1c, .slice E1B l3.length E1d]] (by rfl) rfl rfl (by (try simp only [List.map_toArray, List.map_cons, List.map_nil]); first | done | rfl) ?_
            with_reducible refine (impl_ConcatDfa.calls _ _ l0 _ _ l1 _ _ l2 _ _ l3 ma mn ok _ ?s1 HE0s.out ?s2 HE0t.out ?s3 HE1s.out ?s4 HE1t.out HKI.out).mono ?_
            (case s1 => exact HE0.out.c0)
            (case s2 => exact HE0.out.c1)
            (case s3 => exact HE1.out.c0)
            (case s4 => exact HE1.out.c1)
            rintro e wc3 ⟨y0, y1, rfl, hf0, hf1, hb⟩
            refine ⟨_, rfl, ?_⟩
            have HEW := am_ (Dv.fresh (base := w.heap.size) (Nat.le_trans HB_.out.size HBw.out.size) hf0 hf1)
            have HEWl := am_ HBw.out.size
            replace HBw := bt_ HBw hb
            replace HE0 := am_ (HE0.out.below hb)
            replace HE1 := am_ (HE1.out.below hb)
            refine hK.out _ _ (pb4_ hb hHeld) (fun hHeld => ?_)
            clear hK K hb
            refine nm_ 99 ?_
            have HEWh := am_ (Nat.le_refl (World.heap wc3).size)
            refine ph_ 5 94 (bl 11 63) HT_ ?_
            refine ph_ 6 100 (bl 11 127) HT_ ?_
            refine ph_ 7 101 (bl 11 255) HT_ ?_
            refine on_ 8 (some 15) (bl 11 511) HT_ (fun K hK => ?_)
            refine box_step ?hg (N := 15) ?hd (cs := #[.slice none 0 0, .slice none 0 0]) (t := 27) ?hr ?_; (case hd => rfl); (case hg => rfl); (case hr => first | (go_simp; done) | (go_simp; rfl))
            intro gb hg wa3 hbox hb
            have HGE := am_ (show w21.heap.size ≤ gb by rw [hg]; exact HBw.out.size)
            have HGB := am_ hbox
            replace HBw := bt_ HBw hb
            replace HE0 := am_ (HE0.out.below hb)
            replace HE1 := am_ (HE1.out.below hb)
            replace HEW := am_ (HEW.out.below hb)
            have HEWh := sz_ HEWh hb
            refine hK.out _ _ (pb4_ hb hHeld) (fun hHeld => ?_)
            clear hK K hb hbox
            refine nm_ 15 ?_
            exact norm_ (by simp only [putAll, Act.put, List.setIfInBounds_toArray, List.set_cons_zero, List.set_cons_succ]) (hCont (.agg #[.slice E0A l0.length E0c, .slice E0B l1.length E0d], .agg #[.slice E1A l2.length E1c, .slice E1B l3.length E1d], _, _, gb) _ ⟨hHeld, HBw.out, ⟨_, _, HEW.out, HEWl.out, HEWh.out⟩, HGB.out, HGE.out⟩)
          · skip
            refine box_step ?hg (N := 15) ?hd (cs := #[.slice none 0 0, .slice none 0 0]) (t := 27) ?hr ?_; (case hd => rfl); (case hg => rfl); (case hr => first | (go_simp; done) | (go_simp; rfl))
            intro gb hg wa2 hbox hb
            have HGE := am_ (show w21.heap.size ≤ gb by rw [hg]; exact HBw.out.size)
            have HGB := am_ hbox
            replace HBw := bt_ HBw hb
            replace HE0 := am_ (HE0.out.below hb)
            replace HE1 := am_ (HE1.out.below hb)
            refine hK.out _ _ (pb4_ hb hHeld) (fun hHeld => ?_)
            clear hK K hb hbox
            refine nm_ 15 ?_
            refine on_ 4 (some 99) (bl 11 287) HT_ (fun K hK => ?_)
            refine goes_ Try.func24 (by kernel_rfl) rfl #[.agg #[.slice E0A l0.length E0c, .slice E0B l1.length E0d], .agg #[.slice E1A l2.length E1c, .slice E1B l3.length E1d]] (by rfl) rfl rfl (by (try simp only [List.map_toArray, List.map_cons, List.map_nil]); first | done | rfl) ?_
            with_reducible refine (impl_ConcatDfa.calls _ _ l0 _ _ l1 _ _ l2 _ _ l3 ma mn ok _ ?s1 HE0s.out ?s2 HE0t.out ?s3 HE1s.out ?s4 HE1t.out HKI.out).mono ?_
            (case s1 => exact HE0.out.c0)
            (case s2 => exact HE0.out.c1)
            (case s3 => exact HE1.out.c0)
            (case s4 => exact HE1.out.c1)
            rintro e wc32 ⟨y0, y1, rfl, hf0, hf1, hb⟩
            refine ⟨_, rfl, ?_⟩
            have HEW := am_ (Dv.fresh (base := w.heap.size) (Nat.le_trans HB_.out.size HBw.out.size) hf0 hf1)
            have HEWl := am_ HBw.out.size
            replace HBw := bt_ HBw hb
            replace HE0 := am_ (HE0.out.below hb)
            replace HE1 := am_ (HE1.out.below hb)
            replace HGB := am_ (blk_below HGB.out hb)
            refine hK.out _ _ (pb4_ hb hHeld) (fun hHeld => ?_)
            clear hK K hb
            refine nm_ 99 ?_
            have HEWh := am_ (Nat.le_refl (World.heap wc32).size)
            refine ph_ 5 94 (bl 11 319) HT_ ?_
            refine ph_ 6 100 (bl 11 383) HT_ ?_
            refine ph_ 7 101 (bl 11 511) HT_ ?_
            exact norm_ (by simp only [putAll, Act.put, List.setIfInBounds_toArray, List.set_cons_zero, List.set_cons_succ]) (hCont (.agg #[.slice E0A l0.length E0c, .slice E0B l1.length E0d], .agg #[.slice E1A l2.length E1c, .slice E1B l3.length E1d], _, _, gb) _ ⟨hHeld, HBw.out, ⟨_, _, HEW.out, HEWl.out, HEWh.out⟩, HGB.out, HGE.out⟩)
        · skip
          refine box_step ?hg (N := 15) ?hd (cs := #[.slice none 0 0, .slice none 0 0]) (t := 27) ?hr ?_; (case hd => rfl); (case hg => rfl); (case hr => first | (go_simp; done) | (go_simp; rfl))
          intro gb hg wa1 hbox hb
          have HGE := am_ (show w21.heap.size ≤ gb by rw [hg]; exact HBw.out.size)
          have HGB := am_ hbox
          replace HBw := bt_ HBw hb
          replace HE0 := am_ (HE0.out.below hb)
          refine hK.out _ _ (pb4_ hb hHeld) (fun hHeld => ?_)
          clear hK K hb hbox
          refine nm_ 15 ?_
          refine on_ 3 (some 98) (bl 11 271) HT_ (fun K hK => ?_)
          refine goes_ Try.func14 (by kernel_rfl) rfl #[.agg #[.slice A2 l2.length c2, .slice A3 l3.length c3]] (by rfl) rfl rfl (by (try simp only [List.map_toArray, List.map_cons, List.map_nil]); first | done | rfl) ?_
          with_reducible refine (laws_toDfa.calls kt1 _ _ l2 _ _ l3 l2 l3 _ ?s1 HC2.out ?s2 HC3.out HKT1.out).mono ?_
          (case s1 => exact Kd.C_below HR2.out (below_then HB_.out HB_.out.size HBw.out))
          (case s2 => exact Kd.C_below HR3.out (below_then HB_.out HB_.out.size HBw.out))
          rintro e wc21 ⟨y0, y1, rfl, hf0, hf1, hb⟩
          refine ⟨_, rfl, ?_⟩
          have HE1 := am_ (Dv.fresh (base := w.heap.size) (Nat.le_trans HB_.out.size HBw.out.size) hf0 hf1)
          have HE1l := am_ HBw.out.size
          replace HBw := bt_ HBw hb
          replace HE0 := am_ (HE0.out.below hb)
          replace HGB := am_ (blk_below HGB.out hb)
          obtain ⟨E1A, E1c, E1B, E1d, e0, e1, hs0, hs1⟩ := HE1.out.slices
          subst e0
          subst e1
          have HE1s := am_ hs0
          have HE1t := am_ hs1
          clear hs0 hs1 hf0 hf1
          refine hK.out _ _ (pb4_ hb hHeld) (fun hHeld => ?_)
          clear hK K hb
          refine nm_ 98 ?_
          refine on_ 4 (some 99) (bl 11 287) HT_ (fun K hK => ?_)
          refine goes_ Try.func24 (by kernel_rfl) rfl #[.agg #[.slice E0A l0.length E0c, .slice E0B l1.length E0d], .agg #[.slice E1A l2.length E1c, .slice E1B l3.length E1d]] (by rfl) rfl rfl (by (try simp only [List.map_toArray, List.map_cons, List.map_nil]); first | done | rfl) ?_
          with_reducible refine (impl_ConcatDfa.calls _ _ l0 _ _ l1 _ _ l2 _ _ l3 ma mn ok _ ?s1 HE0s.out ?s2 HE0t.out ?s3 HE1s.out ?s4 HE1t.out HKI.out).mono ?_
          (case s1 => exact HE0.out.c0)
          (case s2 => exact HE0.out.c1)
          (case s3 => exact HE1.out.c0)
          (case s4 => exact HE1.out.c1)
          rintro e wc31 ⟨y0, y1, rfl, hf0, hf1, hb⟩
          refine ⟨_, rfl, ?_⟩
          have HEW := am_ (Dv.fresh (base := w.heap.size) (Nat.le_trans HB_.out.size HBw.out.size) hf0 hf1)
          have HEWl := am_ HBw.out.size
          replace HBw := bt_ HBw hb
          replace HE0 := am_ (HE0.out.below hb)
          replace HE1 := am_ (HE1.out.below hb)
          replace HGB := am_ (blk_below HGB.out hb)
          refine hK.out _ _ (pb4_ hb hHeld) (fun hHeld => ?_)
          clear hK K hb
          refine nm_ 99 ?_
          have HEWh := am_ (Nat.le_refl (World.heap wc31).size)
          refine ph_ 5 94 (bl 11 319) HT_ ?_
          refine ph_ 6 100 (bl 11 383) HT_ ?_
          refine ph_ 7 101 (bl 11 511) HT_ ?_
          exact norm_ (by simp only [putAll, Act.put, List.setIfInBounds_toArray, List.set_cons_zero, List.set_cons_succ]) (hCont (.agg #[.slice E0A l0.length E0c, .slice E0B l1.length E0d], .agg #[.slice E1A l2.length E1c, .slice E1B l3.length E1d], _, _, gb) _ ⟨hHeld, HBw.out, ⟨_, _, HEW.out, HEWl.out, HEWh.out⟩, HGB.out, HGE.out⟩)
      · skip
        refine box_step ?hg (N := 15) ?hd (cs := #[.slice none 0 0, .slice none 0 0]) (t := 27) ?hr ?_; (case hd => rfl); (case hg => rfl); (case hr => first | (go_simp; done) | (go_simp; rfl))
        intro gb hg wa0 hbox hb
        have HGE := am_ (show w21.heap.size ≤ gb by rw [hg]; exact HBw.out.size)
        have HGB := am_ hbox
        replace HBw := bt_ HBw hb
        refine hK.out _ _ (pb4_ hb hHeld) (fun hHeld => ?_)
        clear hK K hb hbox
        refine nm_ 15 ?_
        refine on_ 1 (some 96) (bl 11 263) HT_ (fun K hK => ?_)
        refine goes_ Try.func14 (by kernel_rfl) rfl #[.agg #[.slice A0 l0.length c0, .slice A1 l1.length c1]] (by rfl) rfl rfl (by (try simp only [List.map_toArray, List.map_cons, List.map_nil]); first | done | rfl) ?_
        with_reducible refine (laws_toDfa.calls kt0 _ _ l0 _ _ l1 l0 l1 _ ?s1 HC0.out ?s2 HC1.out HKT0.out).mono ?_
        (case s1 => exact Kd.C_below HR0.out (below_then HB_.out HB_.out.size HBw.out))
        (case s2 => exact Kd.C_below HR1.out (below_then HB_.out HB_.out.size HBw.out))
        rintro e wc10 ⟨y0, y1, rfl, hf0, hf1, hb⟩
        refine ⟨_, rfl, ?_⟩
        have HE0 := am_ (Dv.fresh (base := w.heap.size) (Nat.le_trans HB_.out.size HBw.out.size) hf0 hf1)
        have HE0l := am_ HBw.out.size
        replace HBw := bt_ HBw hb
        replace HGB := am_ (blk_below HGB.out hb)
        obtain ⟨E0A, E0c, E0B, E0d, e0, e1, hs0, hs1⟩ := HE0.out.slices
        subst e0
        subst e1
        have HE0s := am_ hs0
        have HE0t := am_ hs1
        clear hs0 hs1 hf0 hf1
        refine hK.out _ _ (pb4_ hb hHeld) (fun hHeld => ?_)
        clear hK K hb
        refine nm_ 96 ?_
        refine on_ 3 (some 98) (bl 11 271) HT_ (fun K hK => ?_)
        refine goes_ Try.func14 (by kernel_rfl) rfl #[.agg #[.slice A2 l2.length c2, .slice A3 l3.length c3]] (by rfl) rfl rfl (by (try simp only [List.map_toArray, List.map_cons, List.map_nil]); first | done | rfl) ?_
        with_reducible refine (laws_toDfa.calls kt1 _ _ l2 _ _ l3 l2 l3 _ ?s1 HC2.out ?s2 HC3.out HKT1.out).mono ?_
        (case s1 => exact Kd.C_below HR2.out (below_then HB_.out HB_.out.size HBw.out))
        (case s2 => exact Kd.C_below HR3.out (below_then HB_.out HB_.out.size HBw.out))
        rintro e wc20 ⟨y0, y1, rfl, hf0, hf1, hb⟩
        refine ⟨_, rfl, ?_⟩
        have HE1 := am_ (Dv.fresh (base := w.heap.size) (Nat.le_trans HB_.out.size HBw.out.size) hf0 hf1)
        have HE1l := am_ HBw.out.size
        replace HBw := bt_ HBw hb
        replace HE0 := am_ (HE0.out.below hb)
        replace HGB := am_ (blk_below HGB.out hb)
        obtain ⟨E1A, E1c, E1B, E1d, e0, e1, hs0, hs1⟩ := HE1.out.slices
        subst e0
        subst e1
        have HE1s := am_ hs0
        have HE1t := am_ hs1
        clear hs0 hs1 hf0 hf1
        refine hK.out _ _ (pb4_ hb hHeld) (fun hHeld => ?_)
        clear hK K hb
        refine nm_ 98 ?_
        refine on_ 4 (some 99) (bl 11 287) HT_ (fun K hK => ?_)
        refine goes_ Try.func24 (by kernel_rfl) rfl #[.agg #[.slice E0A l0.length E0c, .slice E0B l1.length E0d], .agg #[.slice E1A l2.length E1c, .slice E1B l3.length E1d]] (by rfl) rfl rfl (by (try simp only [List.map_toArray, List.map_cons, List.map_nil]); first | done | rfl) ?_
        with_reducible refine (impl_ConcatDfa.calls _ _ l0 _ _ l1 _ _ l2 _ _ l3 ma mn ok _ ?s1 HE0s.out ?s2 HE0t.out ?s3 HE1s.out ?s4 HE1t.out HKI.out).mono ?_
        (case s1 => exact HE0.out.c0)
        (case s2 => exact HE0.out.c1)
        (case s3 => exact HE1.out.c0)
        (case s4 => exact HE1.out.c1)
        rintro e wc30 ⟨y0, y1, rfl, hf0, hf1, hb⟩
        refine ⟨_, rfl, ?_⟩
        have HEW := am_ (Dv.fresh (base := w.heap.size) (Nat.le_trans HB_.out.size HBw.out.size) hf0 hf1)
        have HEWl := am_ HBw.out.size
        replace HBw := bt_ HBw hb
        replace HE0 := am_ (HE0.out.below hb)
        replace HE1 := am_ (HE1.out.below hb)
        replace HGB := am_ (blk_below HGB.out hb)
        refine hK.out _ _ (pb4_ hb hHeld) (fun hHeld => ?_)
        clear hK K hb
        refine nm_ 99 ?_
        have HEWh := am_ (Nat.le_refl (World.heap wc30).size)
        refine ph_ 5 94 (bl 11 319) HT_ ?_
        refine ph_ 6 100 (bl 11 383) HT_ ?_
        refine ph_ 7 101 (bl 11 511) HT_ ?_
        exact norm_ (by simp only [putAll, Act.put, List.setIfInBounds_toArray, List.set_cons_zero, List.set_cons_succ]) (hCont (.agg #[.slice E0A l0.length E0c, .slice E0B l1.length E0d], .agg #[.slice E1A l2.length E1c, .slice E1B l3.length E1d], _, _, gb) _ ⟨hHeld, HBw.out, ⟨_, _, HEW.out, HEWl.out, HEWh.out⟩, HGB.out, HGE.out⟩)
    rintro ⟨ap, aq, b0_, b1_, g_DH⟩ wj ⟨hHeld, hbj, ⟨lo_DH, hi_DH, hDj, hl1, hl2⟩, hGj, hgj⟩
    obtain ⟨DHA, DHc, DHB, DHd, e0, e1, hs0, hs1⟩ := hDj.slices
    subst e0
    subst e1
    refine norm_ (a' := ?_) ?_ ?_
    rotate_left
    · simp only [putAll, Act.put, List.setIfInBounds_toArray, List.set_cons_zero, List.set_cons_succ]
      rfl
    refine last_ (i := 9) (N := none) (bl 11 1023) rfl rfl (one_of HT_.out (by kernel_rfl)) (by decide) (fun K hK => ?_)
    have hsz0 : wj.cell? ⟨g_DH, 0, none⟩ = some (.slice none 0 0) := (blk_cell hGj 0).trans rfl
    have hsz1 : wj.cell? ⟨g_DH, 1, none⟩ = some (.slice none 0 0) := (blk_cell hGj 1).trans rfl
    have hfr0 := blk_frozen hGj 0
    have hfr1 := blk_frozen hGj 1
    refine skip_ (w1 := ?_) (by rfl) rfl ?_ ?_
    rotate_left
    · go_simp
      rfl
    refine hK.out _ _ ?_
    clear hK K hsz0 hsz1 hfr0 hfr1
    refine ph_ 10 16 (bl 11 2047) HT_ ?_
    refine done_ (done_of HT_.out (by kernel_rfl)) ?_
    clear HT_ HW_ hHeld
    have hG1 : (wj.setCell ⟨g_DH, 0, none⟩ (.slice DHA ma.length DHc)).heap[g_DH]? = some (.cells #[.slice DHA ma.length DHc, .slice none 0 0] 27 (0, 0)) := blk_put hGj 0 _ rfl
    have hG2 : ((wj.setCell ⟨g_DH, 0, none⟩ (.slice DHA ma.length DHc)).setCell ⟨g_DH, 1, none⟩ (.slice DHB mn.length DHd)).heap[g_DH]? = some (.cells #[.slice DHA ma.length DHc, .slice DHB mn.length DHd] 27 (0, 0)) := blk_put hG1 1 _ rfl
    have hD2 := (hDj.box hGj 0 (.slice DHA ma.length DHc)).box hG1 1 (.slice DHB mn.length DHd)
    have hb : Below w21.heap.size w21 ((wj.setCell ⟨g_DH, 0, none⟩ (.slice DHA ma.length DHc)).setCell ⟨g_DH, 1, none⟩ (.slice DHB mn.length DHd)) := below_set (below_set hbj hgj) hgj
    have hl3 : hi_DH ≤ ((wj.setCell ⟨g_DH, 0, none⟩ (.slice DHA ma.length DHc)).setCell ⟨g_DH, 1, none⟩ (.slice DHB mn.length DHd)).heap.size := by simpa [World.setCell] using hl2
    have p_DW_DH := am_ (Nat.le_trans DWh.out hl1)
    have p_D4_DH := am_ (Nat.le_trans D4h.out hl1)
    have p_D6_DH := am_ (Nat.le_trans D6h.out hl1)
    have p_DG_DH := am_ (Nat.le_trans DGh.out hl1)
    have p_BA0_DH := am_ (Nat.lt_of_lt_of_le (blk_lt BA0.out) hl1)
    have p_BA1_DH := am_ (Nat.lt_of_lt_of_le (blk_lt BA1.out) hl1)
    have p_BDW_DH := am_ (Nat.lt_of_lt_of_le (blk_lt BDW.out) hl1)
    have p_BD4_DH := am_ (Nat.lt_of_lt_of_le (blk_lt BD4.out) hl1)
    have p_BD6_DH := am_ (Nat.lt_of_lt_of_le (blk_lt BD6.out) hl1)
    have p_BDG_DH := am_ (Nat.lt_of_lt_of_le (blk_lt BDG.out) hl1)
    have p_DW_BDH := am_ (Nat.le_trans DWh.out hgj)
    have p_D4_BDH := am_ (Nat.le_trans D4h.out hgj)
    have p_D6_BDH := am_ (Nat.le_trans D6h.out hgj)
    have p_DG_BDH := am_ (Nat.le_trans DGh.out hgj)
    have p_BA0_BDH := am_ (Nat.lt_of_lt_of_le (blk_lt BA0.out) hgj)
    have p_BA1_BDH := am_ (Nat.lt_of_lt_of_le (blk_lt BA1.out) hgj)
    have p_BDW_BDH := am_ (Nat.lt_of_lt_of_le (blk_lt BDW.out) hgj)
    have p_BD4_BDH := am_ (Nat.lt_of_lt_of_le (blk_lt BD4.out) hgj)
    have p_BD6_BDH := am_ (Nat.lt_of_lt_of_le (blk_lt BD6.out) hgj)
    have p_BDG_BDH := am_ (Nat.lt_of_lt_of_le (blk_lt BDG.out) hgj)
    replace HB_ := bt_ HB_ hb
    replace BA0 := kb_ BA0 hb
    replace BA1 := kb_ BA1 hb
    replace BDW := kb_ BDW hb
    replace BD4 := kb_ BD4 hb
    replace BD6 := kb_ BD6 hb
    replace BDG := kb_ BDG hb
    replace DW := am_ (DW.out.below hb)
    replace D4 := am_ (D4.out.below hb)
    replace D6 := am_ (D6.out.below hb)
    replace DG := am_ (DG.out.below hb)
    have DWh := sz_ DWh hb
    have D4h := sz_ D4h hb
    have D6h := sz_ D6h hb
    have DGh := sz_ DGh hb
    have DH := am_ hD2
    have DHh := am_ hl3
    have DHs := am_ hs0
    have DHt := am_ hs1
    have BDH := am_ hG2
    clear hG1 hG2 hD2 hDj hGj hbj hgj hl1 hl2 hl3 hs0 hs1 hb
    generalize (wj.setCell ⟨g_DH, 0, none⟩ (.slice DHA ma.length DHc)).setCell ⟨g_DH, 1, none⟩ (.slice DHB mn.length DHd) = w22 at HB_ BA0 BA1 BDW BD4 BD6 BDG BDH DW D4 D6 DG DH DWh D4h D6h DGh DHh ⊢
    have aa := ck_ (v := (.slice A0 l0.length c0)) BA0 0 rfl
    have ab := ck_ (v := (.slice A1 l1.length c1)) BA0 1 rfl
    have ad := ck_ (v := (.slice A2 l2.length c2)) BA1 0 rfl
    have ae := ck_ (v := (.slice A3 l3.length c3)) BA1 1 rfl
    have af := ck_ (v := (.slice DWA ma.length DWc)) BDW 0 rfl
    have ag := ck_ (v := (.slice DWB mn.length DWd)) BDW 1 rfl
    have ah := ck_ (v := (.slice D4A l0.length D4c)) BD4 0 rfl
    have ai := ck_ (v := (.slice D4B l1.length D4d)) BD4 1 rfl
    have aj := ck_ (v := (.slice D6A l2.length D6c)) BD6 0 rfl
    have ak := ck_ (v := (.slice D6B l3.length D6d)) BD6 1 rfl
    have al := ck_ (v := (.slice DGA ma.length DGc)) BDG 0 rfl
    have am := ck_ (v := (.slice DGB mn.length DGd)) BDG 1 rfl
    have an := ck_ (v := (.slice DHA ma.length DHc)) BDH 0 rfl
    have ao := ck_ (v := (.slice DHB mn.length DHd)) BDH 1 rfl
    go_wp2_with (first
      | ((with_reducible refine gate_callee (f := 16) rfl ?_); refine goesL_ (some 104) rfl rfl Try.func16 (by kernel_rfl) rfl #[.agg #[.slice DHA ma.length DHc, .slice DHB mn.length DHd], .agg #[.slice DWA ma.length DWc, .slice DWB mn.length DWd]] rfl (by (try simp only [List.map_toArray, List.map_cons, List.map_nil]); first | done | rfl) ?_; (with_reducible refine (laws_eqDfa.calls keq _ _ ma _ _ mn _ _ ma _ _ mn true _ ?s1 DHs.out ?s2 DHt.out ?s3 DWs.out ?s4 DWt.out HKEq.out).mono ?_); (case s1 => exact DH.out.c0); (case s2 => exact DH.out.c1); (case s3 => exact DW.out.c0); (case s4 => exact DW.out.c1); rintro e w23 ⟨rfl, hb⟩; (try clear aa); (try clear ab); (try clear ad); (try clear ae); (try clear af); (try clear ag); (try clear ah); (try clear ai); (try clear aj); (try clear ak); (try clear al); (try clear am); (try clear an); (try clear ao); replace HB_ := bt_ HB_ hb; replace BA0 := kb_ BA0 hb; replace BA1 := kb_ BA1 hb; replace BDW := kb_ BDW hb; replace BD4 := kb_ BD4 hb; replace BD6 := kb_ BD6 hb; replace BDG := kb_ BDG hb; replace BDH := kb_ BDH hb; replace DW := am_ (DW.out.below hb); replace D4 := am_ (D4.out.below hb); replace D6 := am_ (D6.out.below hb); replace DG := am_ (DG.out.below hb); replace DH := am_ (DH.out.below hb); have DWh := sz_ DWh hb; have D4h := sz_ D4h hb; have D6h := sz_ D6h hb; have DGh := sz_ DGh hb; have DHh := sz_ DHh hb; clear hb; have aa := ck_ (v := (.slice A0 l0.length c0)) BA0 0 rfl; have ab := ck_ (v := (.slice A1 l1.length c1)) BA0 1 rfl; have ad := ck_ (v := (.slice A2 l2.length c2)) BA1 0 rfl; have ae := ck_ (v := (.slice A3 l3.length c3)) BA1 1 rfl; have af := ck_ (v := (.slice DWA ma.length DWc)) BDW 0 rfl; have ag := ck_ (v := (.slice DWB mn.length DWd)) BDW 1 rfl; have ah := ck_ (v := (.slice D4A l0.length D4c)) BD4 0 rfl; have ai := ck_ (v := (.slice D4B l1.length D4d)) BD4 1 rfl; have aj := ck_ (v := (.slice D6A l2.length D6c)) BD6 0 rfl; have ak := ck_ (v := (.slice D6B l3.length D6d)) BD6 1 rfl; have al := ck_ (v := (.slice DGA ma.length DGc)) BDG 0 rfl; have am := ck_ (v := (.slice DGB mn.length DGd)) BDG 1 rfl; have an := ck_ (v := (.slice DHA ma.length DHc)) BDH 0 rfl; have ao := ck_ (v := (.slice DHB mn.length DHd)) BDH 1 rfl; refine ⟨_, rfl, ?_⟩)
      | ((with_reducible refine gate_callee (f := 18) rfl ?_); refine goesL_ (some 113) rfl rfl Try.func18 (by kernel_rfl) rfl #[.agg #[.slice DGA ma.length DGc, .slice DGB mn.length DGd], .int .i64 1] rfl (by (try simp only [List.map_toArray, List.map_cons, List.map_nil]); first | done | rfl) ?_; (with_reducible refine (heldDv DG.out ?s1 ?s2 ?s3).mono ?_); (case s1 => exact by have := HM.out; omega); (case s2 => exact by have := HM.out; omega); (case s3 => exact fun x hx => by have := HM.out.2.2 x hx; omega); rintro e w24 ⟨rfl, hb⟩; (try clear aa); (try clear ab); (try clear ad); (try clear ae); (try clear af); (try clear ag); (try clear ah); (try clear ai); (try clear aj); (try clear ak); (try clear al); (try clear am); (try clear an); (try clear ao); replace HB_ := bt_ HB_ hb; replace BA0 := kb_ BA0 hb; replace BA1 := kb_ BA1 hb; replace BDW := kb_ BDW hb; replace BD4 := kb_ BD4 hb; replace BD6 := kb_ BD6 hb; replace BDG := kb_ BDG hb; replace BDH := kb_ BDH hb; replace DW := am_ (DW.out.below hb); replace D4 := am_ (D4.out.below hb); replace D6 := am_ (D6.out.below hb); replace DG := am_ (DG.out.below hb); replace DH := am_ (DH.out.below hb); have DWh := sz_ DWh hb; have D4h := sz_ D4h hb; have D6h := sz_ D6h hb; have DGh := sz_ DGh hb; have DHh := sz_ DHh hb; clear hb; have aa := ck_ (v := (.slice A0 l0.length c0)) BA0 0 rfl; have ab := ck_ (v := (.slice A1 l1.length c1)) BA0 1 rfl; have ad := ck_ (v := (.slice A2 l2.length c2)) BA1 0 rfl; have ae := ck_ (v := (.slice A3 l3.length c3)) BA1 1 rfl; have af := ck_ (v := (.slice DWA ma.length DWc)) BDW 0 rfl; have ag := ck_ (v := (.slice DWB mn.length DWd)) BDW 1 rfl; have ah := ck_ (v := (.slice D4A l0.length D4c)) BD4 0 rfl; have ai := ck_ (v := (.slice D4B l1.length D4d)) BD4 1 rfl; have aj := ck_ (v := (.slice D6A l2.length D6c)) BD6 0 rfl; have ak := ck_ (v := (.slice D6B l3.length D6d)) BD6 1 rfl; have al := ck_ (v := (.slice DGA ma.length DGc)) BDG 0 rfl; have am := ck_ (v := (.slice DGB mn.length DGd)) BDG 1 rfl; have an := ck_ (v := (.slice DHA ma.length DHc)) BDH 0 rfl; have ao := ck_ (v := (.slice DHB mn.length DHd)) BDH 1 rfl; refine ⟨_, rfl, ?_⟩))
    go_ret
    exact ⟨rfl, HB_.out⟩
end Go.Proofs.Ytogamkblkoobkaa.Wk
end
