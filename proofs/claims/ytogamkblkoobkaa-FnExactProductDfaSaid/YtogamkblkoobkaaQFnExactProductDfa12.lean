/- Texts of the proof of FnExactProductDfa, put together. No condition. -/
import Derived.Shelf.Abstract
import Derived.Lib.Walk
import Derived.Test.YtogamkblkoobkaaQFnExactProductDfa4
import Derived.Test.YtogamkblkoobkaaQFnExactProductDfa11
import Derived.Test.YtogamkblkoobkaaQFnExactProductDfa3
section
namespace Go.Proofs.Ytogamkblkoobkaa.Wk
open Go.RowKit Go.Shelf Go.Proofs.Ytogamkblkoobkaa.P Go.Proofs.Ytogamkblkoobkaa.Pl Go.Proofs.Ytogamkblkoobkaa.Mp Go.Proofs.Ytogamkblkoobkaa.Can Go.Proofs.YtogamkblkoobkaaW.PrintWords Go.Proofs.YtogamkblkoobkaaW.PrintLast Go.Proofs.YtogamkblkoobkaaW.PrintMore
set_option linter.unusedVariables false
set_option linter.unusedSimpArgs false
def T14Pd : Bool × List (List Nat × List Nat) := (true, [([], []), ([], []), ([1], [1]), ([0, 2, 2], [0, 2]), ([3], [3])])
def B14Pd : List Nat := [0, 0, 2, 7, 15]
theorem tab14Pd : rtab .any (opsOf Try.f4 14) = T14Pd := by kernel_rfl
theorem bits14Pd : waitsOk T14Pd.2 B14Pd = true := by kernel_rfl
def T16Pd : Bool × List (List Nat × List Nat) := (true, [([], []), ([], []), ([1], [1]), ([0, 2, 2], [0, 2]), ([3], [3])])
def B16Pd : List Nat := [0, 0, 2, 7, 15]
theorem tab16Pd : rtab .any (opsOf Try.f4 16) = T16Pd := by kernel_rfl
theorem bits16Pd : waitsOk T16Pd.2 B16Pd = true := by kernel_rfl
def T8Pd : Bool × List (List Nat × List Nat) := (true, [([], []), ([0], [0]), ([], []), ([2, 1], [2]), ([], []), ([1, 3, 4, 3], [1, 3, 4]), ([5], [5]), ([6], [6]), ([6], [6]), ([], []), ([9, 7, 5, 0, 1, 2, 3, 4, 5, 6, 7, 9], [7, 9]), ([8, 10, 0, 1, 2, 3, 4, 5, 6, 7, 8, 9, 10], [8])])
def B8Pd : List Nat := [0, 1, 0, 7, 0, 31, 63, 127, 127, 0, 767, 2047]
theorem tab8Pd : rtab .any (opsOf Try.f4 8) = T8Pd := by kernel_rfl
theorem bits8Pd : waitsOk T8Pd.2 B8Pd = true := by kernel_rfl
def T31Pd : Bool × List (List Nat × List Nat) := (true, [([], []), ([0], [0]), ([], []), ([2, 1], [2]), ([], []), ([1, 3, 4, 3], [1, 3, 4]), ([5], [5]), ([6], [6]), ([6], [6]), ([], []), ([9, 7, 5, 0, 1, 2, 3, 4, 5, 6, 7, 9], [7, 9]), ([8, 10, 0, 1, 2, 3, 4, 5, 6, 7, 8, 9, 10], [8])])
def B31Pd : List Nat := [0, 1, 0, 7, 0, 31, 63, 127, 127, 0, 767, 2047]
theorem tab31Pd : rtab .any (opsOf Try.f4 31) = T31Pd := by kernel_rfl
theorem bits31Pd : waitsOk T31Pd.2 B31Pd = true := by kernel_rfl
set_option maxRecDepth 100000 in
set_option maxHeartbeats 16000000 in
theorem lawPd (A0 : Option Addr) (c0 : Nat) (l0 : List Bool) (A1 : Option Addr) (c1 : Nat) (l1 : List (List Int)) (A2 : Option Addr) (c2 : Nat) (l2 : List Bool) (A3 : Option Addr) (c3 : Nat) (l3 : List (List Int)) (a2 : Int) (w : World) (hr0 : Kd.C Kd.bool w A0 l0.length l0) (hc0 : l0.length ≤ c0) (hr1 : Kd.C (Kd.slice 3 (Kd.int .i64)) w A1 l1.length l1) (hc1 : l1.length ≤ c1) (hr2 : Kd.C Kd.bool w A2 l2.length l2) (hc2 : l2.length ≤ c2) (hr3 : Kd.C (Kd.slice 3 (Kd.int .i64)) w A3 l3.length l3) (hc3 : l3.length ≤ c3)
    (hb0 : l0.length ≤ 9223372036854775807) (hb1 : l1.length ≤ 9223372036854775807) (hx1 : ∀ x ∈ l1, x.length ≤ 9223372036854775807) (hb2 : l2.length ≤ 9223372036854775807) (hb3 : l3.length ≤ 9223372036854775807) (hx3 : ∀ x ∈ l3, x.length ≤ 9223372036854775807) :
    Calls Try.prog 4 #[.agg #[.slice A0 l0.length c0, .slice A1 l1.length c1], .agg #[.slice A2 l2.length c2, .slice A3 l3.length c3], .int .i64 a2] w fun e w' => e = .returned (.bool true) ∧ Below w.heap.size w w' := by
  have hu25 := Try.underlying25
  have hu28 := Try.underlying27
  have HB_ := Aside0.mk (Below.refl w.heap.size w)
  have HR0 := Aside0.mk hr0
  have HC0 := Aside0.mk hc0
  have HR1 := Aside0.mk hr1
  have HC1 := Aside0.mk hc1
  have HR2 := Aside0.mk hr2
  have HC2 := Aside0.mk hc2
  have HR3 := Aside0.mk hr3
  have HC3 := Aside0.mk hc3
  have BA0 : Aside0 ((w.alloc (Obj.cells #[.slice A0 l0.length c0, .slice A1 l1.length c1] 25)).heap[w.heap.size]? = some (.cells #[.slice A0 l0.length c0, .slice A1 l1.length c1] 25 (0, 0))) := ⟨by have h_ := blk_new w (Obj.cells #[.slice A0 l0.length c0, .slice A1 l1.length c1] 25); simpa using h_⟩
  have HB_ := Aside0.mk (below_alloc HB_.out (Obj.cells #[.slice A0 l0.length c0, .slice A1 l1.length c1] 25))
  have BA1 : Aside0 (((w.alloc (Obj.cells #[.slice A0 l0.length c0, .slice A1 l1.length c1] 25)).alloc (Obj.cells #[.slice A2 l2.length c2, .slice A3 l3.length c3] 25)).heap[w.heap.size + 1]? = some (.cells #[.slice A2 l2.length c2, .slice A3 l3.length c3] 25 (0, 0))) := ⟨by have h_ := blk_new (w.alloc (Obj.cells #[.slice A0 l0.length c0, .slice A1 l1.length c1] 25)) (Obj.cells #[.slice A2 l2.length c2, .slice A3 l3.length c3] 25); simpa using h_⟩
  have BA0 := Aside0.mk (blk_alloc BA0.out (Obj.cells #[.slice A2 l2.length c2, .slice A3 l3.length c3] 25))
  have HB_ := Aside0.mk (below_alloc HB_.out (Obj.cells #[.slice A2 l2.length c2, .slice A3 l3.length c3] 25))
  obtain ⟨r0, hrz0, _, hle0, hsz0⟩ := szDfa l0 l1 hb0 hb1 hx1 1048576 (by omega) (by omega)
  obtain ⟨kz0, hkz0⟩ := hrz0.rounds
  have HKZ0 := Aside0.mk hkz0
  have HSZ0 := Aside0.mk hsz0
  clear hrz0 hkz0 hsz0
  clear hr0 hc0 hr1 hc1 hr2 hc2 hr3 hc3 hb0 hb1 hx1
  go_enter Try.func4, Try.ntmps4
  by_cases hneg : r0 < 0
  · have d1 : decide (r0 < 0) = true := decide_eq_true hneg
    have p1 : (r0 < 0) = True := eq_true hneg
    clear hneg
    go_wp2_with (first
      | ((with_reducible refine gate_callee (f := 12) rfl ?_); refine goesL_ (some 21) rfl rfl Try.func12 (by kernel_rfl) rfl #[.agg #[.slice A0 l0.length c0, .slice A1 l1.length c1], .int .i64 1048576] rfl (by (try simp only [List.map_toArray, List.map_cons, List.map_nil]); first | done | rfl) ?_; (with_reducible refine (laws_szDfa.calls kz0 _ _ l0 _ _ l1 1048576 r0 _ ?s1 HC0.out ?s2 HC1.out HKZ0.out).mono ?_); (case s1 => exact Kd.C_below HR0.out HB_.out); (case s2 => exact Kd.C_below HR1.out HB_.out); rintro e w2 ⟨rfl, hb⟩; (try clear hz_BA0_0); (try clear hz_BA0_1); (try clear hz_BA1_0); (try clear hz_BA1_1); have HB__n := Aside0.mk (below_then HB_.out HB_.out.size hb); have BA0_n := Aside0.mk ((hb.block _ (blk_lt BA0.out)).trans BA0.out); have BA1_n := Aside0.mk ((hb.block _ (blk_lt BA1.out)).trans BA1.out); clear HB_ BA0 BA1; have HB_ := HB__n; have BA0 := BA0_n; have BA1 := BA1_n; clear HB__n BA0_n BA1_n; clear hb; have hz_BA0_0 : World.cell? w2 ⟨w.heap.size, 0, none⟩ = some (.slice A0 l0.length c0) := (blk_cell BA0.out 0).trans rfl; have hz_BA0_1 : World.cell? w2 ⟨w.heap.size, 1, none⟩ = some (.slice A1 l1.length c1) := (blk_cell BA0.out 1).trans rfl; have hz_BA1_0 : World.cell? w2 ⟨w.heap.size + 1, 0, none⟩ = some (.slice A2 l2.length c2) := (blk_cell BA1.out 0).trans rfl; have hz_BA1_1 : World.cell? w2 ⟨w.heap.size + 1, 1, none⟩ = some (.slice A3 l3.length c3) := (blk_cell BA1.out 1).trans rfl; refine ⟨_, rfl, ?_⟩))
    go_ret
    exact ⟨rfl, HB_.out⟩
  · obtain ⟨r1, hrz1, _, hle1, hsz1⟩ := szDfa l2 l3 hb2 hb3 hx3 r0 (by omega) hle0
    obtain ⟨kz1, hkz1⟩ := hrz1.rounds
    have HKZ1 := Aside0.mk hkz1
    have HSZ1 := Aside0.mk hsz1
    clear hrz1 hkz1 hsz1 hb2 hb3 hx3 hle0 hle1
    have d1 : decide (r0 < 0) = false := decide_eq_false hneg
    have p1 : (r0 < 0) = False := eq_false hneg
    by_cases hneg2 : r1 < 0
    · have d2 : decide (r1 < 0) = true := decide_eq_true hneg2
      have p2 : (r1 < 0) = True := eq_true hneg2
      clear hneg hneg2
      go_wp2_with (first
        | ((with_reducible refine gate_callee (f := 12) rfl ?_); refine goesL_ (some 21) rfl rfl Try.func12 (by kernel_rfl) rfl #[.agg #[.slice A0 l0.length c0, .slice A1 l1.length c1], .int .i64 1048576] rfl (by (try simp only [List.map_toArray, List.map_cons, List.map_nil]); first | done | rfl) ?_; (with_reducible refine (laws_szDfa.calls kz0 _ _ l0 _ _ l1 1048576 r0 _ ?s1 HC0.out ?s2 HC1.out HKZ0.out).mono ?_); (case s1 => exact Kd.C_below HR0.out HB_.out); (case s2 => exact Kd.C_below HR1.out HB_.out); rintro e w2 ⟨rfl, hb⟩; (try clear hz_BA0_0); (try clear hz_BA0_1); (try clear hz_BA1_0); (try clear hz_BA1_1); have HB__n := Aside0.mk (below_then HB_.out HB_.out.size hb); have BA0_n := Aside0.mk ((hb.block _ (blk_lt BA0.out)).trans BA0.out); have BA1_n := Aside0.mk ((hb.block _ (blk_lt BA1.out)).trans BA1.out); clear HB_ BA0 BA1; have HB_ := HB__n; have BA0 := BA0_n; have BA1 := BA1_n; clear HB__n BA0_n BA1_n; clear hb; have hz_BA0_0 : World.cell? w2 ⟨w.heap.size, 0, none⟩ = some (.slice A0 l0.length c0) := (blk_cell BA0.out 0).trans rfl; have hz_BA0_1 : World.cell? w2 ⟨w.heap.size, 1, none⟩ = some (.slice A1 l1.length c1) := (blk_cell BA0.out 1).trans rfl; have hz_BA1_0 : World.cell? w2 ⟨w.heap.size + 1, 0, none⟩ = some (.slice A2 l2.length c2) := (blk_cell BA1.out 0).trans rfl; have hz_BA1_1 : World.cell? w2 ⟨w.heap.size + 1, 1, none⟩ = some (.slice A3 l3.length c3) := (blk_cell BA1.out 1).trans rfl; refine ⟨_, rfl, ?_⟩)
        | ((with_reducible refine gate_callee (f := 12) rfl ?_); refine goesL_ (some 26) rfl rfl Try.func12 (by kernel_rfl) rfl #[.agg #[.slice A2 l2.length c2, .slice A3 l3.length c3], .int .i64 r0] rfl (by (try simp only [List.map_toArray, List.map_cons, List.map_nil]); first | done | rfl) ?_; (with_reducible refine (laws_szDfa.calls kz1 _ _ l2 _ _ l3 r0 r1 _ ?s1 HC2.out ?s2 HC3.out HKZ1.out).mono ?_); (case s1 => exact Kd.C_below HR2.out HB_.out); (case s2 => exact Kd.C_below HR3.out HB_.out); rintro e w3 ⟨rfl, hb⟩; (try clear hz_BA0_0); (try clear hz_BA0_1); (try clear hz_BA1_0); (try clear hz_BA1_1); have HB__n := Aside0.mk (below_then HB_.out HB_.out.size hb); have BA0_n := Aside0.mk ((hb.block _ (blk_lt BA0.out)).trans BA0.out); have BA1_n := Aside0.mk ((hb.block _ (blk_lt BA1.out)).trans BA1.out); clear HB_ BA0 BA1; have HB_ := HB__n; have BA0 := BA0_n; have BA1 := BA1_n; clear HB__n BA0_n BA1_n; clear hb; have hz_BA0_0 : World.cell? w3 ⟨w.heap.size, 0, none⟩ = some (.slice A0 l0.length c0) := (blk_cell BA0.out 0).trans rfl; have hz_BA0_1 : World.cell? w3 ⟨w.heap.size, 1, none⟩ = some (.slice A1 l1.length c1) := (blk_cell BA0.out 1).trans rfl; have hz_BA1_0 : World.cell? w3 ⟨w.heap.size + 1, 0, none⟩ = some (.slice A2 l2.length c2) := (blk_cell BA1.out 0).trans rfl; have hz_BA1_1 : World.cell? w3 ⟨w.heap.size + 1, 1, none⟩ = some (.slice A3 l3.length c3) := (blk_cell BA1.out 1).trans rfl; refine ⟨_, rfl, ?_⟩))
      go_ret
      exact ⟨rfl, HB_.out⟩
    have d2 : decide (r1 < 0) = false := decide_eq_false hneg2
    have p2 : (r1 < 0) = False := eq_false hneg2
    obtain ⟨s1, s2, s3⟩ := HSZ0.out (by omega)
    obtain ⟨kt0, hkt0⟩ := (Pl.toDfa l0 l1 s1 s2 s3).rounds
    have HKT0 := Aside0.mk hkt0
    have qe := (Pl.sameDfa l0 l1 l0 l1 s1 s2 s3).rounds
    simp only [decide_true, Bool.and_self] at qe
    obtain ⟨ke0, hke0⟩ := qe
    have HKE0 := Aside0.mk hke0
    have HS0 := Aside0.mk (show l0.length ≤ 1048576 ∧ l1.length ≤ 1048576 ∧ ∀ x ∈ l1, x.length ≤ 1048576 from ⟨s1, s2, s3⟩)
    clear hkt0 hke0
    have s1_0 := s1
    have s2_0 := s2
    obtain ⟨s1, s2, s3⟩ := HSZ1.out (by omega)
    obtain ⟨kt1, hkt1⟩ := (Pl.toDfa l2 l3 s1 s2 s3).rounds
    have HKT1 := Aside0.mk hkt1
    have qe := (Pl.sameDfa l2 l3 l2 l3 s1 s2 s3).rounds
    simp only [decide_true, Bool.and_self] at qe
    obtain ⟨ke2, hke2⟩ := qe
    have HKE2 := Aside0.mk hke2
    have HS1 := Aside0.mk (show l2.length ≤ 1048576 ∧ l3.length ≤ 1048576 ∧ ∀ x ∈ l3, x.length ≤ 1048576 from ⟨s1, s2, s3⟩)
    clear hkt1 hke2
    have s1_1 := s1
    have s2_1 := s2
    have hks := spec_pd l0 l1 l2 l3 a2 (by omega) (by omega) (by omega) (by omega)
    have hki := show impl_ProductDfa.f l0 l1 l2 l3 a2 = some (pdR l0 l1 l2 l3 a2) from rfl
    obtain ⟨m1, m2, m3⟩ := pdR_len l0 l1 l2 l3 a2
    generalize pdR l0 l1 l2 l3 a2 = mm at hks hki m1 m2 m3
    obtain ⟨ma, mn, ok⟩ := mm
    dsimp only at m1 m2 m3 hks hki
    have qe := (Pl.sameDfa ma mn ma mn (by omega) (by omega) (fun x hx => by have := m3 x hx; omega)).rounds
    simp only [decide_true, Bool.and_self] at qe
    obtain ⟨keq, hkeq⟩ := qe
    have HKEq := Aside0.mk hkeq
    have HKS := Aside0.mk hks
    have HKI := Aside0.mk hki
    have HM := Aside0.mk (show ma.length ≤ 40 ∧ mn.length ≤ 40 ∧ ∀ r ∈ mn, r.length = 3 from ⟨m1, m2, m3⟩)
    clear hkeq hks hki m1 m2 m3
    clear s1 s2 s3 s1_0 s2_0 s1_1 s2_1
    have HMK0 : Aside0 (0 ≤ (mkK l1 (1 + (l0.length : Int))) ∧ (mkK l1 (1 + (l0.length : Int))) ≤ 5000000000000) := ⟨by have h_ := mkK_bound l1 (1 + (l0.length : Int)) (fun x hx => by have := HS0.out.2.2 x hx; omega); have h2_ := HS0.out; omega⟩
    have kq0a : ((mkK l1 (1 + (l0.length : Int))) < 0) = False := eq_false (by have := HMK0.out; omega)
    have kq0b : decide ((mkK l1 (1 + (l0.length : Int))) < 0) = false := decide_eq_false (by have := HMK0.out; omega)
    have HMK1 : Aside0 (0 ≤ (mkK l3 ((mkK l1 (1 + (l0.length : Int))) + (l2.length : Int))) ∧ (mkK l3 ((mkK l1 (1 + (l0.length : Int))) + (l2.length : Int))) ≤ 10000000000000) := ⟨by have h_ := mkK_bound l3 ((mkK l1 (1 + (l0.length : Int))) + (l2.length : Int)) (fun x hx => by have := HS1.out.2.2 x hx; omega); have h2_ := HS1.out; have h3_ := HMK0.out; omega⟩
    have kq1a : ((mkK l3 ((mkK l1 (1 + (l0.length : Int))) + (l2.length : Int))) < 0) = False := eq_false (by have := HMK1.out; omega)
    have kq1b : decide ((mkK l3 ((mkK l1 (1 + (l0.length : Int))) + (l2.length : Int))) < 0) = false := decide_eq_false (by have := HMK1.out; omega)
    have kqra : ((mkK mn (1 + (ma.length : Int))) < 0) = False := eq_false (by have := (mkK_bound mn (1 + (ma.length : Int)) (fun x hx => by have := HM.out.2.2 x hx; omega)).1; omega)
    have kqrb : decide ((mkK mn (1 + (ma.length : Int))) < 0) = false := decide_eq_false (by have := (mkK_bound mn (1 + (ma.length : Int)) (fun x hx => by have := HM.out.2.2 x hx; omega)).1; omega)
    have okb : (ok != ok) = false := by cases ok <;> rfl
    clear hneg hneg2
    go_wp2_with (first
      | ((with_reducible refine gate_callee (f := 12) rfl ?_); refine goesL_ (some 21) rfl rfl Try.func12 (by kernel_rfl) rfl #[.agg #[.slice A0 l0.length c0, .slice A1 l1.length c1], .int .i64 1048576] rfl (by (try simp only [List.map_toArray, List.map_cons, List.map_nil]); first | done | rfl) ?_; (with_reducible refine (laws_szDfa.calls kz0 _ _ l0 _ _ l1 1048576 r0 _ ?s1 HC0.out ?s2 HC1.out HKZ0.out).mono ?_); (case s1 => exact Kd.C_below HR0.out HB_.out); (case s2 => exact Kd.C_below HR1.out HB_.out); rintro e w2 ⟨rfl, hb⟩; (try clear hz_BA0_0); (try clear hz_BA0_1); (try clear hz_BA1_0); (try clear hz_BA1_1); have HB__n := Aside0.mk (below_then HB_.out HB_.out.size hb); have BA0_n := Aside0.mk ((hb.block _ (blk_lt BA0.out)).trans BA0.out); have BA1_n := Aside0.mk ((hb.block _ (blk_lt BA1.out)).trans BA1.out); clear HB_ BA0 BA1; have HB_ := HB__n; have BA0 := BA0_n; have BA1 := BA1_n; clear HB__n BA0_n BA1_n; clear hb; have hz_BA0_0 : World.cell? w2 ⟨w.heap.size, 0, none⟩ = some (.slice A0 l0.length c0) := (blk_cell BA0.out 0).trans rfl; have hz_BA0_1 : World.cell? w2 ⟨w.heap.size, 1, none⟩ = some (.slice A1 l1.length c1) := (blk_cell BA0.out 1).trans rfl; have hz_BA1_0 : World.cell? w2 ⟨w.heap.size + 1, 0, none⟩ = some (.slice A2 l2.length c2) := (blk_cell BA1.out 0).trans rfl; have hz_BA1_1 : World.cell? w2 ⟨w.heap.size + 1, 1, none⟩ = some (.slice A3 l3.length c3) := (blk_cell BA1.out 1).trans rfl; refine ⟨_, rfl, ?_⟩)
      | ((with_reducible refine gate_callee (f := 12) rfl ?_); refine goesL_ (some 26) rfl rfl Try.func12 (by kernel_rfl) rfl #[.agg #[.slice A2 l2.length c2, .slice A3 l3.length c3], .int .i64 r0] rfl (by (try simp only [List.map_toArray, List.map_cons, List.map_nil]); first | done | rfl) ?_; (with_reducible refine (laws_szDfa.calls kz1 _ _ l2 _ _ l3 r0 r1 _ ?s1 HC2.out ?s2 HC3.out HKZ1.out).mono ?_); (case s1 => exact Kd.C_below HR2.out HB_.out); (case s2 => exact Kd.C_below HR3.out HB_.out); rintro e w3 ⟨rfl, hb⟩; (try clear hz_BA0_0); (try clear hz_BA0_1); (try clear hz_BA1_0); (try clear hz_BA1_1); have HB__n := Aside0.mk (below_then HB_.out HB_.out.size hb); have BA0_n := Aside0.mk ((hb.block _ (blk_lt BA0.out)).trans BA0.out); have BA1_n := Aside0.mk ((hb.block _ (blk_lt BA1.out)).trans BA1.out); clear HB_ BA0 BA1; have HB_ := HB__n; have BA0 := BA0_n; have BA1 := BA1_n; clear HB__n BA0_n BA1_n; clear hb; have hz_BA0_0 : World.cell? w3 ⟨w.heap.size, 0, none⟩ = some (.slice A0 l0.length c0) := (blk_cell BA0.out 0).trans rfl; have hz_BA0_1 : World.cell? w3 ⟨w.heap.size, 1, none⟩ = some (.slice A1 l1.length c1) := (blk_cell BA0.out 1).trans rfl; have hz_BA1_0 : World.cell? w3 ⟨w.heap.size + 1, 0, none⟩ = some (.slice A2 l2.length c2) := (blk_cell BA1.out 0).trans rfl; have hz_BA1_1 : World.cell? w3 ⟨w.heap.size + 1, 1, none⟩ = some (.slice A3 l3.length c3) := (blk_cell BA1.out 1).trans rfl; refine ⟨_, rfl, ?_⟩))
    refine start_ (n := 12) (S := (fun w' => w'.cell? ⟨w.heap.size, 0, none⟩ = some (.slice A0 l0.length c0) ∧ w'.cell? ⟨w.heap.size, 1, none⟩ = some (.slice A1 l1.length c1) ∧ w'.cell? ⟨w.heap.size + 1, 0, none⟩ = some (.slice A2 l2.length c2) ∧ w'.cell? ⟨w.heap.size + 1, 1, none⟩ = some (.slice A3 l3.length c3))) (ds := [10]) #[false, false, false, false, false, false, false, false, false, false, false, false] (by kernel_rfl) rfl rfl (⟨(blk_cell BA0.out 0).trans rfl, (blk_cell BA0.out 1).trans rfl, (blk_cell BA1.out 0).trans rfl, (blk_cell BA1.out 1).trans rfl⟩) (fun hHeld => ?_); refine with_tabW tab8Pd bits8Pd (fun HT_ HW_ => ?_)
    (try clear hz_BA0_0)
    (try clear hz_BA0_1)
    (try clear hz_BA1_0)
    (try clear hz_BA1_1)
    have hb := below_drew1 (Below.refl w3.heap.size w3)
    have HB__n := Aside0.mk (below_then HB_.out HB_.out.size hb)
    have BA0_n := Aside0.mk ((hb.block _ (blk_lt BA0.out)).trans BA0.out)
    have BA1_n := Aside0.mk ((hb.block _ (blk_lt BA1.out)).trans BA1.out)
    clear HB_ BA0 BA1
    have HB_ := HB__n
    have BA0 := BA0_n
    have BA1 := BA1_n
    clear HB__n BA0_n BA1_n
    clear hb
    generalize w3.drew = w4 at HB_ BA0 BA1 hHeld ⊢
    refine pure_ (i := 4) (N := some 34) (v := ?_) (a' := ?_) #[false, false, false, false, true, false, false, false, false, false, false, false] rfl rfl (any_of HT_.out (by kernel_rfl)) (fun _ _ _ h => h) (Or.inl ⟨by rfl, ?_⟩) ?_ ?_
    rotate_left
    · intro w'
      go_simp
      with_reducible rfl
    rotate_left
    · simp only [Act.put, List.setIfInBounds_toArray, List.set_cons_zero, List.set_cons_succ, i64_w, i32_w]
      rfl
    refine take_ (i := 0) (N := some 30) (v := ?_) (a' := ?_) #[true, false, false, false, true, false, false, false, false, false, false, false] rfl rfl (take_ofW HT_.out HW_.out (by kernel_rfl)) (fun _ _ _ h => h) (Or.inl ⟨by rfl, ?_⟩) hHeld ?_ ?_
    rotate_left
    · rintro w' ⟨t0, t1, t2, t3⟩
      go_simp
      with_reducible rfl
    rotate_left
    · simp only [Act.put, List.setIfInBounds_toArray, List.set_cons_zero, List.set_cons_succ, i64_w, i32_w]
      rfl
    refine take_ (i := 2) (N := some 32) (v := ?_) (a' := ?_) #[true, false, true, false, true, false, false, false, false, false, false, false] rfl rfl (take_ofW HT_.out HW_.out (by kernel_rfl)) (fun _ _ _ h => h) (Or.inl ⟨by rfl, ?_⟩) hHeld ?_ ?_
    rotate_left
    · rintro w' ⟨t0, t1, t2, t3⟩
      go_simp
      with_reducible rfl
    rotate_left
    · simp only [Act.put, List.setIfInBounds_toArray, List.set_cons_zero, List.set_cons_succ, i64_w, i32_w]
      rfl
    refine join_ (σ := Value × Value × Value × Value × Nat) 2 #[true, true, true, true, true, true, true, true, true, true, false, false] (fun s_ => [(31, s_.1), (33, s_.2.1), (35, .tuple #[.agg #[s_.2.2.1, s_.2.2.2.1], .bool ok]), (8, .pointer (some ⟨s_.2.2.2.2, 0, none⟩)), (29, .tuple #[.agg #[s_.2.2.1, s_.2.2.2.1], .bool ok]), (36, .agg #[s_.2.2.1, s_.2.2.2.1]), (37, .bool ok)]) (fun s_ w' => (fun w' => w'.cell? ⟨w.heap.size, 0, none⟩ = some (.slice A0 l0.length c0) ∧ w'.cell? ⟨w.heap.size, 1, none⟩ = some (.slice A1 l1.length c1) ∧ w'.cell? ⟨w.heap.size + 1, 0, none⟩ = some (.slice A2 l2.length c2) ∧ w'.cell? ⟨w.heap.size + 1, 1, none⟩ = some (.slice A3 l3.length c3)) w' ∧ Below w4.heap.size w4 w' ∧ (∃ lo hi : Nat, Dv w.heap.size w' lo hi s_.2.2.1 s_.2.2.2.1 ma mn ∧ w4.heap.size ≤ lo ∧ hi ≤ w'.heap.size) ∧ w'.heap[s_.2.2.2.2]? = some (.cells #[.slice none 0 0, .slice none 0 0] 27 (0, 0)) ∧ w4.heap.size ≤ s_.2.2.2.2) ?_ ?_
    rotate_left
    · intro hCont
      have HBw := Aside0.mk (Below.refl w4.heap.size w4)
      refine two_ (i := 1) (j := 9) (Ni := some 31) (Nj := some 8) #[true, true, true, false, true, false, false, false, false, false, false, false] #[true, false, true, false, true, false, false, false, false, true, false, false] rfl rfl rfl rfl (two_of HT_.out (by kernel_rfl)) (by decide) (by decide) (fun K hK => ?_) (fun K hK => ?_)
      · skip
        refine goes_ Try.func14 (by kernel_rfl) rfl #[.agg #[.slice A0 l0.length c0, .slice A1 l1.length c1]] (by rfl) rfl rfl (by (try simp only [List.map_toArray, List.map_cons, List.map_nil]); first | done | rfl) ?_
        with_reducible refine (laws_toDfa.calls kt0 _ _ l0 _ _ l1 l0 l1 _ ?s1 HC0.out ?s2 HC1.out HKT0.out).mono ?_
        (case s1 => exact Kd.C_below HR0.out (below_then HB_.out HB_.out.size HBw.out))
        (case s2 => exact Kd.C_below HR1.out (below_then HB_.out HB_.out.size HBw.out))
        rintro e wc1 ⟨y0, y1, rfl, hf0, hf1, hb⟩
        refine ⟨_, rfl, ?_⟩
        have HE0 := Aside0.mk (Dv.fresh (base := w.heap.size) (Nat.le_trans HB_.out.size HBw.out.size) hf0 hf1)
        have HE0l := Aside0.mk HBw.out.size
        have HBw_n := Aside0.mk (below_then HBw.out HBw.out.size hb)
        clear HBw
        have HBw := HBw_n
        clear HBw_n
        obtain ⟨E0A, E0c, E0B, E0d, e0, e1, hs0, hs1⟩ := HE0.out.slices
        subst e0
        subst e1
        have HE0s := Aside0.mk hs0
        have HE0t := Aside0.mk hs1
        clear hs0 hs1 hf0 hf1
        refine hK.out _ _ ⟨pw_cell_below hb hHeld.1, pw_cell_below hb hHeld.2.1, pw_cell_below hb hHeld.2.2.1, pw_cell_below hb hHeld.2.2.2⟩ (fun hHeld => ?_)
        clear hK K hb
        refine norm_ (a' := ?_) ?_ ?_
        rotate_left
        · show Act.put _ (some 31) _ = _
          simp only [Act.put, List.setIfInBounds_toArray, List.set_cons_zero, List.set_cons_succ, i64_w, i32_w]
          rfl
        refine two_ (i := 3) (j := 9) (Ni := some 33) (Nj := some 8) #[true, true, true, true, true, false, false, false, false, false, false, false] #[true, true, true, false, true, false, false, false, false, true, false, false] rfl rfl rfl rfl (two_of HT_.out (by kernel_rfl)) (by decide) (by decide) (fun K hK => ?_) (fun K hK => ?_)
        · skip
          refine goes_ Try.func14 (by kernel_rfl) rfl #[.agg #[.slice A2 l2.length c2, .slice A3 l3.length c3]] (by rfl) rfl rfl (by (try simp only [List.map_toArray, List.map_cons, List.map_nil]); first | done | rfl) ?_
          with_reducible refine (laws_toDfa.calls kt1 _ _ l2 _ _ l3 l2 l3 _ ?s1 HC2.out ?s2 HC3.out HKT1.out).mono ?_
          (case s1 => exact Kd.C_below HR2.out (below_then HB_.out HB_.out.size HBw.out))
          (case s2 => exact Kd.C_below HR3.out (below_then HB_.out HB_.out.size HBw.out))
          rintro e wc2 ⟨y0, y1, rfl, hf0, hf1, hb⟩
          refine ⟨_, rfl, ?_⟩
          have HE1 := Aside0.mk (Dv.fresh (base := w.heap.size) (Nat.le_trans HB_.out.size HBw.out.size) hf0 hf1)
          have HE1l := Aside0.mk HBw.out.size
          have HBw_n := Aside0.mk (below_then HBw.out HBw.out.size hb)
          have HE0_n := Aside0.mk (HE0.out.below hb)
          clear HBw HE0
          have HBw := HBw_n
          have HE0 := HE0_n
          clear HBw_n HE0_n
          obtain ⟨E1A, E1c, E1B, E1d, e0, e1, hs0, hs1⟩ := HE1.out.slices
          subst e0
          subst e1
          have HE1s := Aside0.mk hs0
          have HE1t := Aside0.mk hs1
          clear hs0 hs1 hf0 hf1
          refine hK.out _ _ ⟨pw_cell_below hb hHeld.1, pw_cell_below hb hHeld.2.1, pw_cell_below hb hHeld.2.2.1, pw_cell_below hb hHeld.2.2.2⟩ (fun hHeld => ?_)
          clear hK K hb
          refine norm_ (a' := ?_) ?_ ?_
          rotate_left
          · show Act.put _ (some 33) _ = _
            simp only [Act.put, List.setIfInBounds_toArray, List.set_cons_zero, List.set_cons_succ, i64_w, i32_w]
            rfl
          refine two_ (i := 5) (j := 9) (Ni := some 35) (Nj := some 8) #[true, true, true, true, true, true, false, false, false, false, false, false] #[true, true, true, true, true, false, false, false, false, true, false, false] rfl rfl rfl rfl (two_of HT_.out (by kernel_rfl)) (by decide) (by decide) (fun K hK => ?_) (fun K hK => ?_)
          · skip
            refine goes_ Try.func19 (by kernel_rfl) rfl #[.agg #[.slice E0A l0.length E0c, .slice E0B l1.length E0d], .agg #[.slice E1A l2.length E1c, .slice E1B l3.length E1d], .int .i64 a2] (by rfl) rfl rfl (by (try simp only [List.map_toArray, List.map_cons, List.map_nil]); first | done | rfl) ?_
            with_reducible refine (spec_ProductDfa.calls _ _ l0 _ _ l1 _ _ l2 _ _ l3 a2 ma mn ok _ ?s1 HE0s.out ?s2 HE0t.out ?s3 HE1s.out ?s4 HE1t.out HKS.out).mono ?_
            (case s1 => exact HE0.out.c0)
            (case s2 => exact HE0.out.c1)
            (case s3 => exact HE1.out.c0)
            (case s4 => exact HE1.out.c1)
            rintro e wc3 ⟨y0, y1, rfl, hf0, hf1, hb⟩
            refine ⟨_, rfl, ?_⟩
            have HEW := Aside0.mk (Dv.fresh (base := w.heap.size) (Nat.le_trans HB_.out.size HBw.out.size) hf0 hf1)
            have HEWl := Aside0.mk HBw.out.size
            have HBw_n := Aside0.mk (below_then HBw.out HBw.out.size hb)
            have HE0_n := Aside0.mk (HE0.out.below hb)
            have HE1_n := Aside0.mk (HE1.out.below hb)
            clear HBw HE0 HE1
            have HBw := HBw_n
            have HE0 := HE0_n
            have HE1 := HE1_n
            clear HBw_n HE0_n HE1_n
            refine hK.out _ _ ⟨pw_cell_below hb hHeld.1, pw_cell_below hb hHeld.2.1, pw_cell_below hb hHeld.2.2.1, pw_cell_below hb hHeld.2.2.2⟩ (fun hHeld => ?_)
            clear hK K hb
            refine norm_ (a' := ?_) ?_ ?_
            rotate_left
            · show Act.put _ (some 35) _ = _
              simp only [Act.put, List.setIfInBounds_toArray, List.set_cons_zero, List.set_cons_succ, i64_w, i32_w]
              rfl
            have HEWh := Aside0.mk (Nat.le_refl (World.heap wc3).size)
            refine pure_ (i := 6) (N := some 29) (v := ?_) (a' := ?_) #[true, true, true, true, true, true, true, false, false, false, false, false] rfl rfl (any_of HT_.out (by kernel_rfl)) (fun _ _ _ h => h) (Or.inl ⟨by rfl, ?_⟩) ?_ ?_
            rotate_left
            · intro w'
              go_simp
              with_reducible rfl
            rotate_left
            · simp only [Act.put, List.setIfInBounds_toArray, List.set_cons_zero, List.set_cons_succ, i64_w, i32_w]
              rfl
            refine pure_ (i := 7) (N := some 36) (v := ?_) (a' := ?_) #[true, true, true, true, true, true, true, true, false, false, false, false] rfl rfl (any_of HT_.out (by kernel_rfl)) (fun _ _ _ h => h) (Or.inl ⟨by rfl, ?_⟩) ?_ ?_
            rotate_left
            · intro w'
              go_simp
              with_reducible rfl
            rotate_left
            · simp only [Act.put, List.setIfInBounds_toArray, List.set_cons_zero, List.set_cons_succ, i64_w, i32_w]
              rfl
            refine pure_ (i := 8) (N := some 37) (v := ?_) (a' := ?_) #[true, true, true, true, true, true, true, true, true, false, false, false] rfl rfl (any_of HT_.out (by kernel_rfl)) (fun _ _ _ h => h) (Or.inl ⟨by rfl, ?_⟩) ?_ ?_
            rotate_left
            · intro w'
              go_simp
              with_reducible rfl
            rotate_left
            · simp only [Act.put, List.setIfInBounds_toArray, List.set_cons_zero, List.set_cons_succ, i64_w, i32_w]
              rfl
            refine one_ (i := 9) (N := some 8) #[true, true, true, true, true, true, true, true, true, true, false, false] rfl rfl (one_of HT_.out (by kernel_rfl)) (by decide) (fun K hK => ?_)
            refine box_step ?hg (N := 8) ?hd (cs := #[.slice none 0 0, .slice none 0 0]) (t := 27) ?hr ?_; (case hd => rfl); (case hg => rfl); (case hr => first | (go_simp; done) | (go_simp; rfl))
            intro gb hg wa3 hbox hb
            have HGE := Aside0.mk (show w4.heap.size ≤ gb by rw [hg]; exact HBw.out.size)
            have HGB := Aside0.mk hbox
            have HBw_n := Aside0.mk (below_then HBw.out HBw.out.size hb)
            have HE0_n := Aside0.mk (HE0.out.below hb)
            have HE1_n := Aside0.mk (HE1.out.below hb)
            have HEW_n := Aside0.mk (HEW.out.below hb)
            have HEWh := Aside0.mk (Nat.le_trans HEWh.out hb.size)
            clear HBw HE0 HE1 HEW
            have HBw := HBw_n
            have HE0 := HE0_n
            have HE1 := HE1_n
            have HEW := HEW_n
            clear HBw_n HE0_n HE1_n HEW_n
            refine hK.out _ _ ⟨pw_cell_below hb hHeld.1, pw_cell_below hb hHeld.2.1, pw_cell_below hb hHeld.2.2.1, pw_cell_below hb hHeld.2.2.2⟩ (fun hHeld => ?_)
            clear hK K hb hbox
            refine norm_ (a' := ?_) ?_ ?_
            rotate_left
            · show Act.put _ (some 8) _ = _
              simp only [Act.put, List.setIfInBounds_toArray, List.set_cons_zero, List.set_cons_succ, i64_w, i32_w]
              rfl
            exact norm_ (by simp only [putAll, Act.put, List.setIfInBounds_toArray, List.set_cons_zero, List.set_cons_succ]) (hCont (.agg #[.slice E0A l0.length E0c, .slice E0B l1.length E0d], .agg #[.slice E1A l2.length E1c, .slice E1B l3.length E1d], _, _, gb) _ ⟨hHeld, HBw.out, ⟨_, _, HEW.out, HEWl.out, HEWh.out⟩, HGB.out, HGE.out⟩)
          · skip
            refine box_step ?hg (N := 8) ?hd (cs := #[.slice none 0 0, .slice none 0 0]) (t := 27) ?hr ?_; (case hd => rfl); (case hg => rfl); (case hr => first | (go_simp; done) | (go_simp; rfl))
            intro gb hg wa2 hbox hb
            have HGE := Aside0.mk (show w4.heap.size ≤ gb by rw [hg]; exact HBw.out.size)
            have HGB := Aside0.mk hbox
            have HBw_n := Aside0.mk (below_then HBw.out HBw.out.size hb)
            have HE0_n := Aside0.mk (HE0.out.below hb)
            have HE1_n := Aside0.mk (HE1.out.below hb)
            clear HBw HE0 HE1
            have HBw := HBw_n
            have HE0 := HE0_n
            have HE1 := HE1_n
            clear HBw_n HE0_n HE1_n
            refine hK.out _ _ ⟨pw_cell_below hb hHeld.1, pw_cell_below hb hHeld.2.1, pw_cell_below hb hHeld.2.2.1, pw_cell_below hb hHeld.2.2.2⟩ (fun hHeld => ?_)
            clear hK K hb hbox
            refine norm_ (a' := ?_) ?_ ?_
            rotate_left
            · show Act.put _ (some 8) _ = _
              simp only [Act.put, List.setIfInBounds_toArray, List.set_cons_zero, List.set_cons_succ, i64_w, i32_w]
              rfl
            refine one_ (i := 5) (N := some 35) #[true, true, true, true, true, true, false, false, false, true, false, false] rfl rfl (one_of HT_.out (by kernel_rfl)) (by decide) (fun K hK => ?_)
            refine goes_ Try.func19 (by kernel_rfl) rfl #[.agg #[.slice E0A l0.length E0c, .slice E0B l1.length E0d], .agg #[.slice E1A l2.length E1c, .slice E1B l3.length E1d], .int .i64 a2] (by rfl) rfl rfl (by (try simp only [List.map_toArray, List.map_cons, List.map_nil]); first | done | rfl) ?_
            with_reducible refine (spec_ProductDfa.calls _ _ l0 _ _ l1 _ _ l2 _ _ l3 a2 ma mn ok _ ?s1 HE0s.out ?s2 HE0t.out ?s3 HE1s.out ?s4 HE1t.out HKS.out).mono ?_
            (case s1 => exact HE0.out.c0)
            (case s2 => exact HE0.out.c1)
            (case s3 => exact HE1.out.c0)
            (case s4 => exact HE1.out.c1)
            rintro e wc32 ⟨y0, y1, rfl, hf0, hf1, hb⟩
            refine ⟨_, rfl, ?_⟩
            have HEW := Aside0.mk (Dv.fresh (base := w.heap.size) (Nat.le_trans HB_.out.size HBw.out.size) hf0 hf1)
            have HEWl := Aside0.mk HBw.out.size
            have HBw_n := Aside0.mk (below_then HBw.out HBw.out.size hb)
            have HE0_n := Aside0.mk (HE0.out.below hb)
            have HE1_n := Aside0.mk (HE1.out.below hb)
            have HGB_n := Aside0.mk (blk_below HGB.out hb)
            clear HBw HE0 HE1 HGB
            have HBw := HBw_n
            have HE0 := HE0_n
            have HE1 := HE1_n
            have HGB := HGB_n
            clear HBw_n HE0_n HE1_n HGB_n
            refine hK.out _ _ ⟨pw_cell_below hb hHeld.1, pw_cell_below hb hHeld.2.1, pw_cell_below hb hHeld.2.2.1, pw_cell_below hb hHeld.2.2.2⟩ (fun hHeld => ?_)
            clear hK K hb
            refine norm_ (a' := ?_) ?_ ?_
            rotate_left
            · show Act.put _ (some 35) _ = _
              simp only [Act.put, List.setIfInBounds_toArray, List.set_cons_zero, List.set_cons_succ, i64_w, i32_w]
              rfl
            have HEWh := Aside0.mk (Nat.le_refl (World.heap wc32).size)
            refine pure_ (i := 6) (N := some 29) (v := ?_) (a' := ?_) #[true, true, true, true, true, true, true, false, false, true, false, false] rfl rfl (any_of HT_.out (by kernel_rfl)) (fun _ _ _ h => h) (Or.inl ⟨by rfl, ?_⟩) ?_ ?_
            rotate_left
            · intro w'
              go_simp
              with_reducible rfl
            rotate_left
            · simp only [Act.put, List.setIfInBounds_toArray, List.set_cons_zero, List.set_cons_succ, i64_w, i32_w]
              rfl
            refine pure_ (i := 7) (N := some 36) (v := ?_) (a' := ?_) #[true, true, true, true, true, true, true, true, false, true, false, false] rfl rfl (any_of HT_.out (by kernel_rfl)) (fun _ _ _ h => h) (Or.inl ⟨by rfl, ?_⟩) ?_ ?_
            rotate_left
            · intro w'
              go_simp
              with_reducible rfl
            rotate_left
            · simp only [Act.put, List.setIfInBounds_toArray, List.set_cons_zero, List.set_cons_succ, i64_w, i32_w]
              rfl
            refine pure_ (i := 8) (N := some 37) (v := ?_) (a' := ?_) #[true, true, true, true, true, true, true, true, true, true, false, false] rfl rfl (any_of HT_.out (by kernel_rfl)) (fun _ _ _ h => h) (Or.inl ⟨by rfl, ?_⟩) ?_ ?_
            rotate_left
            · intro w'
              go_simp
              with_reducible rfl
            rotate_left
            · simp only [Act.put, List.setIfInBounds_toArray, List.set_cons_zero, List.set_cons_succ, i64_w, i32_w]
              rfl
            exact norm_ (by simp only [putAll, Act.put, List.setIfInBounds_toArray, List.set_cons_zero, List.set_cons_succ]) (hCont (.agg #[.slice E0A l0.length E0c, .slice E0B l1.length E0d], .agg #[.slice E1A l2.length E1c, .slice E1B l3.length E1d], _, _, gb) _ ⟨hHeld, HBw.out, ⟨_, _, HEW.out, HEWl.out, HEWh.out⟩, HGB.out, HGE.out⟩)
        · skip
          refine box_step ?hg (N := 8) ?hd (cs := #[.slice none 0 0, .slice none 0 0]) (t := 27) ?hr ?_; (case hd => rfl); (case hg => rfl); (case hr => first | (go_simp; done) | (go_simp; rfl))
          intro gb hg wa1 hbox hb
          have HGE := Aside0.mk (show w4.heap.size ≤ gb by rw [hg]; exact HBw.out.size)
          have HGB := Aside0.mk hbox
          have HBw_n := Aside0.mk (below_then HBw.out HBw.out.size hb)
          have HE0_n := Aside0.mk (HE0.out.below hb)
          clear HBw HE0
          have HBw := HBw_n
          have HE0 := HE0_n
          clear HBw_n HE0_n
          refine hK.out _ _ ⟨pw_cell_below hb hHeld.1, pw_cell_below hb hHeld.2.1, pw_cell_below hb hHeld.2.2.1, pw_cell_below hb hHeld.2.2.2⟩ (fun hHeld => ?_)
          clear hK K hb hbox
          refine norm_ (a' := ?_) ?_ ?_
          rotate_left
          · show Act.put _ (some 8) _ = _
            simp only [Act.put, List.setIfInBounds_toArray, List.set_cons_zero, List.set_cons_succ, i64_w, i32_w]
            rfl
          refine one_ (i := 3) (N := some 33) #[true, true, true, true, true, false, false, false, false, true, false, false] rfl rfl (one_of HT_.out (by kernel_rfl)) (by decide) (fun K hK => ?_)
          refine goes_ Try.func14 (by kernel_rfl) rfl #[.agg #[.slice A2 l2.length c2, .slice A3 l3.length c3]] (by rfl) rfl rfl (by (try simp only [List.map_toArray, List.map_cons, List.map_nil]); first | done | rfl) ?_
          with_reducible refine (laws_toDfa.calls kt1 _ _ l2 _ _ l3 l2 l3 _ ?s1 HC2.out ?s2 HC3.out HKT1.out).mono ?_
          (case s1 => exact Kd.C_below HR2.out (below_then HB_.out HB_.out.size HBw.out))
          (case s2 => exact Kd.C_below HR3.out (below_then HB_.out HB_.out.size HBw.out))
          rintro e wc21 ⟨y0, y1, rfl, hf0, hf1, hb⟩
          refine ⟨_, rfl, ?_⟩
          have HE1 := Aside0.mk (Dv.fresh (base := w.heap.size) (Nat.le_trans HB_.out.size HBw.out.size) hf0 hf1)
          have HE1l := Aside0.mk HBw.out.size
          have HBw_n := Aside0.mk (below_then HBw.out HBw.out.size hb)
          have HE0_n := Aside0.mk (HE0.out.below hb)
          have HGB_n := Aside0.mk (blk_below HGB.out hb)
          clear HBw HE0 HGB
          have HBw := HBw_n
          have HE0 := HE0_n
          have HGB := HGB_n
          clear HBw_n HE0_n HGB_n
          obtain ⟨E1A, E1c, E1B, E1d, e0, e1, hs0, hs1⟩ := HE1.out.slices
          subst e0
          subst e1
          have HE1s := Aside0.mk hs0
          have HE1t := Aside0.mk hs1
          clear hs0 hs1 hf0 hf1
          refine hK.out _ _ ⟨pw_cell_below hb hHeld.1, pw_cell_below hb hHeld.2.1, pw_cell_below hb hHeld.2.2.1, pw_cell_below hb hHeld.2.2.2⟩ (fun hHeld => ?_)
          clear hK K hb
          refine norm_ (a' := ?_) ?_ ?_
          rotate_left
          · show Act.put _ (some 33) _ = _
            simp only [Act.put, List.setIfInBounds_toArray, List.set_cons_zero, List.set_cons_succ, i64_w, i32_w]
            rfl
          refine one_ (i := 5) (N := some 35) #[true, true, true, true, true, true, false, false, false, true, false, false] rfl rfl (one_of HT_.out (by kernel_rfl)) (by decide) (fun K hK => ?_)
          refine goes_ Try.func19 (by kernel_rfl) rfl #[.agg #[.slice E0A l0.length E0c, .slice E0B l1.length E0d], .agg #[.slice E1A l2.length E1c, .slice E1B l3.length E1d], .int .i64 a2] (by rfl) rfl rfl (by (try simp only [List.map_toArray, List.map_cons, List.map_nil]); first | done | rfl) ?_
          with_reducible refine (spec_ProductDfa.calls _ _ l0 _ _ l1 _ _ l2 _ _ l3 a2 ma mn ok _ ?s1 HE0s.out ?s2 HE0t.out ?s3 HE1s.out ?s4 HE1t.out HKS.out).mono ?_
          (case s1 => exact HE0.out.c0)
          (case s2 => exact HE0.out.c1)
          (case s3 => exact HE1.out.c0)
          (case s4 => exact HE1.out.c1)
          rintro e wc31 ⟨y0, y1, rfl, hf0, hf1, hb⟩
          refine ⟨_, rfl, ?_⟩
          have HEW := Aside0.mk (Dv.fresh (base := w.heap.size) (Nat.le_trans HB_.out.size HBw.out.size) hf0 hf1)
          have HEWl := Aside0.mk HBw.out.size
          have HBw_n := Aside0.mk (below_then HBw.out HBw.out.size hb)
          have HE0_n := Aside0.mk (HE0.out.below hb)
          have HE1_n := Aside0.mk (HE1.out.below hb)
          have HGB_n := Aside0.mk (blk_below HGB.out hb)
          clear HBw HE0 HE1 HGB
          have HBw := HBw_n
          have HE0 := HE0_n
          have HE1 := HE1_n
          have HGB := HGB_n
          clear HBw_n HE0_n HE1_n HGB_n
          refine hK.out _ _ ⟨pw_cell_below hb hHeld.1, pw_cell_below hb hHeld.2.1, pw_cell_below hb hHeld.2.2.1, pw_cell_below hb hHeld.2.2.2⟩ (fun hHeld => ?_)
          clear hK K hb
          refine norm_ (a' := ?_) ?_ ?_
          rotate_left
          · show Act.put _ (some 35) _ = _
            simp only [Act.put, List.setIfInBounds_toArray, List.set_cons_zero, List.set_cons_succ, i64_w, i32_w]
            rfl
          have HEWh := Aside0.mk (Nat.le_refl (World.heap wc31).size)
          refine pure_ (i := 6) (N := some 29) (v := ?_) (a' := ?_) #[true, true, true, true, true, true, true, false, false, true, false, false] rfl rfl (any_of HT_.out (by kernel_rfl)) (fun _ _ _ h => h) (Or.inl ⟨by rfl, ?_⟩) ?_ ?_
          rotate_left
          · intro w'
            go_simp
            with_reducible rfl
          rotate_left
          · simp only [Act.put, List.setIfInBounds_toArray, List.set_cons_zero, List.set_cons_succ, i64_w, i32_w]
            rfl
          refine pure_ (i := 7) (N := some 36) (v := ?_) (a' := ?_) #[true, true, true, true, true, true, true, true, false, true, false, false] rfl rfl (any_of HT_.out (by kernel_rfl)) (fun _ _ _ h => h) (Or.inl ⟨by rfl, ?_⟩) ?_ ?_
          rotate_left
          · intro w'
            go_simp
            with_reducible rfl
          rotate_left
          · simp only [Act.put, List.setIfInBounds_toArray, List.set_cons_zero, List.set_cons_succ, i64_w, i32_w]
            rfl
          refine pure_ (i := 8) (N := some 37) (v := ?_) (a' := ?_) #[true, true, true, true, true, true, true, true, true, true, false, false] rfl rfl (any_of HT_.out (by kernel_rfl)) (fun _ _ _ h => h) (Or.inl ⟨by rfl, ?_⟩) ?_ ?_
          rotate_left
          · intro w'
            go_simp
            with_reducible rfl
          rotate_left
          · simp only [Act.put, List.setIfInBounds_toArray, List.set_cons_zero, List.set_cons_succ, i64_w, i32_w]
            rfl
          exact norm_ (by simp only [putAll, Act.put, List.setIfInBounds_toArray, List.set_cons_zero, List.set_cons_succ]) (hCont (.agg #[.slice E0A l0.length E0c, .slice E0B l1.length E0d], .agg #[.slice E1A l2.length E1c, .slice E1B l3.length E1d], _, _, gb) _ ⟨hHeld, HBw.out, ⟨_, _, HEW.out, HEWl.out, HEWh.out⟩, HGB.out, HGE.out⟩)
      · skip
        refine box_step ?hg (N := 8) ?hd (cs := #[.slice none 0 0, .slice none 0 0]) (t := 27) ?hr ?_; (case hd => rfl); (case hg => rfl); (case hr => first | (go_simp; done) | (go_simp; rfl))
        intro gb hg wa0 hbox hb
        have HGE := Aside0.mk (show w4.heap.size ≤ gb by rw [hg]; exact HBw.out.size)
        have HGB := Aside0.mk hbox
        have HBw_n := Aside0.mk (below_then HBw.out HBw.out.size hb)
        clear HBw
        have HBw := HBw_n
        clear HBw_n
        refine hK.out _ _ ⟨pw_cell_below hb hHeld.1, pw_cell_below hb hHeld.2.1, pw_cell_below hb hHeld.2.2.1, pw_cell_below hb hHeld.2.2.2⟩ (fun hHeld => ?_)
        clear hK K hb hbox
        refine norm_ (a' := ?_) ?_ ?_
        rotate_left
        · show Act.put _ (some 8) _ = _
          simp only [Act.put, List.setIfInBounds_toArray, List.set_cons_zero, List.set_cons_succ, i64_w, i32_w]
          rfl
        refine one_ (i := 1) (N := some 31) #[true, true, true, false, true, false, false, false, false, true, false, false] rfl rfl (one_of HT_.out (by kernel_rfl)) (by decide) (fun K hK => ?_)
        refine goes_ Try.func14 (by kernel_rfl) rfl #[.agg #[.slice A0 l0.length c0, .slice A1 l1.length c1]] (by rfl) rfl rfl (by (try simp only [List.map_toArray, List.map_cons, List.map_nil]); first | done | rfl) ?_
        with_reducible refine (laws_toDfa.calls kt0 _ _ l0 _ _ l1 l0 l1 _ ?s1 HC0.out ?s2 HC1.out HKT0.out).mono ?_
        (case s1 => exact Kd.C_below HR0.out (below_then HB_.out HB_.out.size HBw.out))
        (case s2 => exact Kd.C_below HR1.out (below_then HB_.out HB_.out.size HBw.out))
        rintro e wc10 ⟨y0, y1, rfl, hf0, hf1, hb⟩
        refine ⟨_, rfl, ?_⟩
        have HE0 := Aside0.mk (Dv.fresh (base := w.heap.size) (Nat.le_trans HB_.out.size HBw.out.size) hf0 hf1)
        have HE0l := Aside0.mk HBw.out.size
        have HBw_n := Aside0.mk (below_then HBw.out HBw.out.size hb)
        have HGB_n := Aside0.mk (blk_below HGB.out hb)
        clear HBw HGB
        have HBw := HBw_n
        have HGB := HGB_n
        clear HBw_n HGB_n
        obtain ⟨E0A, E0c, E0B, E0d, e0, e1, hs0, hs1⟩ := HE0.out.slices
        subst e0
        subst e1
        have HE0s := Aside0.mk hs0
        have HE0t := Aside0.mk hs1
        clear hs0 hs1 hf0 hf1
        refine hK.out _ _ ⟨pw_cell_below hb hHeld.1, pw_cell_below hb hHeld.2.1, pw_cell_below hb hHeld.2.2.1, pw_cell_below hb hHeld.2.2.2⟩ (fun hHeld => ?_)
        clear hK K hb
        refine norm_ (a' := ?_) ?_ ?_
        rotate_left
        · show Act.put _ (some 31) _ = _
          simp only [Act.put, List.setIfInBounds_toArray, List.set_cons_zero, List.set_cons_succ, i64_w, i32_w]
          rfl
        refine one_ (i := 3) (N := some 33) #[true, true, true, true, true, false, false, false, false, true, false, false] rfl rfl (one_of HT_.out (by kernel_rfl)) (by decide) (fun K hK => ?_)
        refine goes_ Try.func14 (by kernel_rfl) rfl #[.agg #[.slice A2 l2.length c2, .slice A3 l3.length c3]] (by rfl) rfl rfl (by (try simp only [List.map_toArray, List.map_cons, List.map_nil]); first | done | rfl) ?_
        with_reducible refine (laws_toDfa.calls kt1 _ _ l2 _ _ l3 l2 l3 _ ?s1 HC2.out ?s2 HC3.out HKT1.out).mono ?_
        (case s1 => exact Kd.C_below HR2.out (below_then HB_.out HB_.out.size HBw.out))
        (case s2 => exact Kd.C_below HR3.out (below_then HB_.out HB_.out.size HBw.out))
        rintro e wc20 ⟨y0, y1, rfl, hf0, hf1, hb⟩
        refine ⟨_, rfl, ?_⟩
        have HE1 := Aside0.mk (Dv.fresh (base := w.heap.size) (Nat.le_trans HB_.out.size HBw.out.size) hf0 hf1)
        have HE1l := Aside0.mk HBw.out.size
        have HBw_n := Aside0.mk (below_then HBw.out HBw.out.size hb)
        have HE0_n := Aside0.mk (HE0.out.below hb)
        have HGB_n := Aside0.mk (blk_below HGB.out hb)
        clear HBw HE0 HGB
        have HBw := HBw_n
        have HE0 := HE0_n
        have HGB := HGB_n
        clear HBw_n HE0_n HGB_n
        obtain ⟨E1A, E1c, E1B, E1d, e0, e1, hs0, hs1⟩ := HE1.out.slices
        subst e0
        subst e1
        have HE1s := Aside0.mk hs0
        have HE1t := Aside0.mk hs1
        clear hs0 hs1 hf0 hf1
        refine hK.out _ _ ⟨pw_cell_below hb hHeld.1, pw_cell_below hb hHeld.2.1, pw_cell_below hb hHeld.2.2.1, pw_cell_below hb hHeld.2.2.2⟩ (fun hHeld => ?_)
        clear hK K hb
        refine norm_ (a' := ?_) ?_ ?_
        rotate_left
        · show Act.put _ (some 33) _ = _
          simp only [Act.put, List.setIfInBounds_toArray, List.set_cons_zero, List.set_cons_succ, i64_w, i32_w]
          rfl
        refine one_ (i := 5) (N := some 35) #[true, true, true, true, true, true, false, false, false, true, false, false] rfl rfl (one_of HT_.out (by kernel_rfl)) (by decide) (fun K hK => ?_)
        refine goes_ Try.func19 (by kernel_rfl) rfl #[.agg #[.slice E0A l0.length E0c, .slice E0B l1.length E0d], .agg #[.slice E1A l2.length E1c, .slice E1B l3.length E1d], .int .i64 a2] (by rfl) rfl rfl (by (try simp only [List.map_toArray, List.map_cons, List.map_nil]); first | done | rfl) ?_
        with_reducible refine (spec_ProductDfa.calls _ _ l0 _ _ l1 _ _ l2 _ _ l3 a2 ma mn ok _ ?s1 HE0s.out ?s2 HE0t.out ?s3 HE1s.out ?s4 HE1t.out HKS.out).mono ?_
        (case s1 => exact HE0.out.c0)
        (case s2 => exact HE0.out.c1)
        (case s3 => exact HE1.out.c0)
        (case s4 => exact HE1.out.c1)
        rintro e wc30 ⟨y0, y1, rfl, hf0, hf1, hb⟩
        refine ⟨_, rfl, ?_⟩
        have HEW := Aside0.mk (Dv.fresh (base := w.heap.size) (Nat.le_trans HB_.out.size HBw.out.size) hf0 hf1)
        have HEWl := Aside0.mk HBw.out.size
        have HBw_n := Aside0.mk (below_then HBw.out HBw.out.size hb)
        have HE0_n := Aside0.mk (HE0.out.below hb)
        have HE1_n := Aside0.mk (HE1.out.below hb)
        have HGB_n := Aside0.mk (blk_below HGB.out hb)
        clear HBw HE0 HE1 HGB
        have HBw := HBw_n
        have HE0 := HE0_n
        have HE1 := HE1_n
        have HGB := HGB_n
        clear HBw_n HE0_n HE1_n HGB_n
        refine hK.out _ _ ⟨pw_cell_below hb hHeld.1, pw_cell_below hb hHeld.2.1, pw_cell_below hb hHeld.2.2.1, pw_cell_below hb hHeld.2.2.2⟩ (fun hHeld => ?_)
        clear hK K hb
        refine norm_ (a' := ?_) ?_ ?_
        rotate_left
        · show Act.put _ (some 35) _ = _
          simp only [Act.put, List.setIfInBounds_toArray, List.set_cons_zero, List.set_cons_succ, i64_w, i32_w]
          rfl
        have HEWh := Aside0.mk (Nat.le_refl (World.heap wc30).size)
        refine pure_ (i := 6) (N := some 29) (v := ?_) (a' := ?_) #[true, true, true, true, true, true, true, false, false, true, false, false] rfl rfl (any_of HT_.out (by kernel_rfl)) (fun _ _ _ h => h) (Or.inl ⟨by rfl, ?_⟩) ?_ ?_
        rotate_left
        · intro w'
          go_simp
          with_reducible rfl
        rotate_left
        · simp only [Act.put, List.setIfInBounds_toArray, List.set_cons_zero, List.set_cons_succ, i64_w, i32_w]
          rfl
        refine pure_ (i := 7) (N := some 36) (v := ?_) (a' := ?_) #[true, true, true, true, true, true, true, true, false, true, false, false] rfl rfl (any_of HT_.out (by kernel_rfl)) (fun _ _ _ h => h) (Or.inl ⟨by rfl, ?_⟩) ?_ ?_
        rotate_left
        · intro w'
          go_simp
          with_reducible rfl
        rotate_left
        · simp only [Act.put, List.setIfInBounds_toArray, List.set_cons_zero, List.set_cons_succ, i64_w, i32_w]
          rfl
        refine pure_ (i := 8) (N := some 37) (v := ?_) (a' := ?_) #[true, true, true, true, true, true, true, true, true, true, false, false] rfl rfl (any_of HT_.out (by kernel_rfl)) (fun _ _ _ h => h) (Or.inl ⟨by rfl, ?_⟩) ?_ ?_
        rotate_left
        · intro w'
          go_simp
          with_reducible rfl
        rotate_left
        · simp only [Act.put, List.setIfInBounds_toArray, List.set_cons_zero, List.set_cons_succ, i64_w, i32_w]
          rfl
        exact norm_ (by simp only [putAll, Act.put, List.setIfInBounds_toArray, List.set_cons_zero, List.set_cons_succ]) (hCont (.agg #[.slice E0A l0.length E0c, .slice E0B l1.length E0d], .agg #[.slice E1A l2.length E1c, .slice E1B l3.length E1d], _, _, gb) _ ⟨hHeld, HBw.out, ⟨_, _, HEW.out, HEWl.out, HEWh.out⟩, HGB.out, HGE.out⟩)
    rintro ⟨x31_0, x31_1, b0_, b1_, g_DW⟩ wj ⟨hHeld, hbj, ⟨lo_DW, hi_DW, hDj, hl1, hl2⟩, hGj, hgj⟩
    obtain ⟨DWA, DWc, DWB, DWd, e0, e1, hs0, hs1⟩ := hDj.slices
    subst e0
    subst e1
    refine norm_ (a' := ?_) ?_ ?_
    rotate_left
    · simp only [putAll, Act.put, List.setIfInBounds_toArray, List.set_cons_zero, List.set_cons_succ]
      rfl
    refine last_ (i := 10) (N := none) #[true, true, true, true, true, true, true, true, true, true, true, false] rfl rfl (one_of HT_.out (by kernel_rfl)) (by decide) (fun K hK => ?_)
    have hsz0 : wj.cell? ⟨g_DW, 0, none⟩ = some (.slice none 0 0) := (blk_cell hGj 0).trans rfl
    have hsz1 : wj.cell? ⟨g_DW, 1, none⟩ = some (.slice none 0 0) := (blk_cell hGj 1).trans rfl
    have hfr0 := blk_frozen hGj 0
    have hfr1 := blk_frozen hGj 1
    refine skip_ (w1 := ?_) (by rfl) rfl ?_ ?_
    rotate_left
    · go_simp
      rfl
    refine hK.out _ _ ?_
    clear hK K hsz0 hsz1 hfr0 hfr1
    refine pure_ (i := 11) (N := some 9) (v := ?_) (a' := ?_) #[true, true, true, true, true, true, true, true, true, true, true, true] rfl rfl (any_of HT_.out (by kernel_rfl)) (fun _ _ _ h => h) (Or.inl ⟨by rfl, ?_⟩) ?_ ?_
    rotate_left
    · intro w'
      go_simp
      with_reducible rfl
    rotate_left
    · simp only [Act.put, List.setIfInBounds_toArray, List.set_cons_zero, List.set_cons_succ, i64_w, i32_w]
      rfl
    refine done_ (done_of HT_.out (by kernel_rfl)) ?_
    clear HT_ HW_ hHeld
    have hG1 : (wj.setCell ⟨g_DW, 0, none⟩ (.slice DWA ma.length DWc)).heap[g_DW]? = some (.cells #[.slice DWA ma.length DWc, .slice none 0 0] 27 (0, 0)) := blk_put hGj 0 _ rfl
    have hG2 : ((wj.setCell ⟨g_DW, 0, none⟩ (.slice DWA ma.length DWc)).setCell ⟨g_DW, 1, none⟩ (.slice DWB mn.length DWd)).heap[g_DW]? = some (.cells #[.slice DWA ma.length DWc, .slice DWB mn.length DWd] 27 (0, 0)) := blk_put hG1 1 _ rfl
    have hD2 := (hDj.box hGj 0 (.slice DWA ma.length DWc)).box hG1 1 (.slice DWB mn.length DWd)
    have hb : Below w4.heap.size w4 ((wj.setCell ⟨g_DW, 0, none⟩ (.slice DWA ma.length DWc)).setCell ⟨g_DW, 1, none⟩ (.slice DWB mn.length DWd)) := below_set (below_set hbj hgj) hgj
    have hl3 : hi_DW ≤ ((wj.setCell ⟨g_DW, 0, none⟩ (.slice DWA ma.length DWc)).setCell ⟨g_DW, 1, none⟩ (.slice DWB mn.length DWd)).heap.size := by simpa [World.setCell] using hl2
    have p_BA0_DW := Aside0.mk (Nat.lt_of_lt_of_le (blk_lt BA0.out) hl1)
    have p_BA1_DW := Aside0.mk (Nat.lt_of_lt_of_le (blk_lt BA1.out) hl1)
    have p_BA0_BDW := Aside0.mk (Nat.lt_of_lt_of_le (blk_lt BA0.out) hgj)
    have p_BA1_BDW := Aside0.mk (Nat.lt_of_lt_of_le (blk_lt BA1.out) hgj)
    have HB__n := Aside0.mk (below_then HB_.out HB_.out.size hb)
    have BA0_n := Aside0.mk ((hb.block _ (blk_lt BA0.out)).trans BA0.out)
    have BA1_n := Aside0.mk ((hb.block _ (blk_lt BA1.out)).trans BA1.out)
    clear HB_ BA0 BA1
    have HB_ := HB__n
    have BA0 := BA0_n
    have BA1 := BA1_n
    clear HB__n BA0_n BA1_n
    have DW := Aside0.mk hD2
    have DWh := Aside0.mk hl3
    have DWs := Aside0.mk hs0
    have DWt := Aside0.mk hs1
    have BDW := Aside0.mk hG2
    clear hG1 hG2 hD2 hDj hGj hbj hgj hl1 hl2 hl3 hs0 hs1 hb
    generalize (wj.setCell ⟨g_DW, 0, none⟩ (.slice DWA ma.length DWc)).setCell ⟨g_DW, 1, none⟩ (.slice DWB mn.length DWd) = w5 at HB_ BA0 BA1 BDW DW DWh ⊢
    have hz_BA0_0 : World.cell? w5 ⟨w.heap.size, 0, none⟩ = some (.slice A0 l0.length c0) := (blk_cell BA0.out 0).trans rfl
    have hz_BA0_1 : World.cell? w5 ⟨w.heap.size, 1, none⟩ = some (.slice A1 l1.length c1) := (blk_cell BA0.out 1).trans rfl
    have hz_BA1_0 : World.cell? w5 ⟨w.heap.size + 1, 0, none⟩ = some (.slice A2 l2.length c2) := (blk_cell BA1.out 0).trans rfl
    have hz_BA1_1 : World.cell? w5 ⟨w.heap.size + 1, 1, none⟩ = some (.slice A3 l3.length c3) := (blk_cell BA1.out 1).trans rfl
    have hz_BDW_0 : World.cell? w5 ⟨g_DW, 0, none⟩ = some (.slice DWA ma.length DWc) := (blk_cell BDW.out 0).trans rfl
    have hz_BDW_1 : World.cell? w5 ⟨g_DW, 1, none⟩ = some (.slice DWB mn.length DWd) := (blk_cell BDW.out 1).trans rfl
    go_wp2_with (first
      | ((with_reducible refine gate_callee (f := 14) rfl ?_); refine goesL_ (some 39) rfl rfl Try.func14 (by kernel_rfl) rfl #[.agg #[.slice A0 l0.length c0, .slice A1 l1.length c1]] rfl (by (try simp only [List.map_toArray, List.map_cons, List.map_nil]); first | done | rfl) ?_; (with_reducible refine (laws_toDfa.calls kt0 _ _ l0 _ _ l1 l0 l1 _ ?s1 HC0.out ?s2 HC1.out HKT0.out).mono ?_); (case s1 => exact Kd.C_below HR0.out HB_.out); (case s2 => exact Kd.C_below HR1.out HB_.out); rintro e w6 ⟨a0_, a1_, rfl, hf0, hf1, hb⟩; (try clear hz_BA0_0); (try clear hz_BA0_1); (try clear hz_BA1_0); (try clear hz_BA1_1); (try clear hz_BDW_0); (try clear hz_BDW_1); have p_DW_D4 := Aside0.mk DWh.out; have p_BA0_D4 := Aside0.mk (blk_lt BA0.out); have p_BA1_D4 := Aside0.mk (blk_lt BA1.out); have p_BDW_D4 := Aside0.mk (blk_lt BDW.out); have D4h : Aside0 (w6.heap.size ≤ w6.heap.size) := ⟨Nat.le_refl _⟩; have D4_n := Aside0.mk (Dv.fresh (base := w.heap.size) HB_.out.size hf0 hf1); have HB__n := Aside0.mk (below_then HB_.out HB_.out.size hb); have BA0_n := Aside0.mk ((hb.block _ (blk_lt BA0.out)).trans BA0.out); have BA1_n := Aside0.mk ((hb.block _ (blk_lt BA1.out)).trans BA1.out); have BDW_n := Aside0.mk ((hb.block _ (blk_lt BDW.out)).trans BDW.out); have DW_n := Aside0.mk (DW.out.below hb); have DWh := Aside0.mk (Nat.le_trans DWh.out hb.size); clear HB_ BA0 BA1 BDW DW; have HB_ := HB__n; have BA0 := BA0_n; have BA1 := BA1_n; have BDW := BDW_n; have DW := DW_n; clear HB__n BA0_n BA1_n BDW_n DW_n; have D4 := D4_n; clear D4_n; clear hf0 hf1 hb; obtain ⟨D4A, D4c, D4B, D4d, e0, e1, hs0, hs1⟩ := D4.out.slices; subst e0; subst e1; have D4s := Aside0.mk hs0; have D4t := Aside0.mk hs1; clear hs0 hs1; have p_DW_BD4 := Aside0.mk DWh.out; have p_D4_BD4 := Aside0.mk D4h.out; have BD4_n := Aside0.mk (blk_new w6 (Obj.cells #[.slice D4A l0.length D4c, .slice D4B l1.length D4d] 27)); have HB__n := Aside0.mk (below_alloc HB_.out (Obj.cells #[.slice D4A l0.length D4c, .slice D4B l1.length D4d] 27)); have BA0_n := Aside0.mk (blk_alloc BA0.out (Obj.cells #[.slice D4A l0.length D4c, .slice D4B l1.length D4d] 27)); have BA1_n := Aside0.mk (blk_alloc BA1.out (Obj.cells #[.slice D4A l0.length D4c, .slice D4B l1.length D4d] 27)); have BDW_n := Aside0.mk (blk_alloc BDW.out (Obj.cells #[.slice D4A l0.length D4c, .slice D4B l1.length D4d] 27)); have DW_n := Aside0.mk (DW.out.below (below_alloc (Below.refl _ _) (Obj.cells #[.slice D4A l0.length D4c, .slice D4B l1.length D4d] 27))); have D4_n := Aside0.mk (D4.out.below (below_alloc (Below.refl _ _) (Obj.cells #[.slice D4A l0.length D4c, .slice D4B l1.length D4d] 27))); have DWh := Aside0.mk (Nat.le_trans DWh.out (below_alloc (Below.refl _ _) (Obj.cells #[.slice D4A l0.length D4c, .slice D4B l1.length D4d] 27)).size); have D4h := Aside0.mk (Nat.le_trans D4h.out (below_alloc (Below.refl _ _) (Obj.cells #[.slice D4A l0.length D4c, .slice D4B l1.length D4d] 27)).size); clear HB_ BA0 BA1 BDW DW D4; have HB_ := HB__n; have BA0 := BA0_n; have BA1 := BA1_n; have BDW := BDW_n; have DW := DW_n; have D4 := D4_n; clear HB__n BA0_n BA1_n BDW_n DW_n D4_n; have BD4 := BD4_n; clear BD4_n; have hz_BA0_0 : World.cell? (w6.alloc (Obj.cells #[.slice D4A l0.length D4c, .slice D4B l1.length D4d] 27)) ⟨w.heap.size, 0, none⟩ = some (.slice A0 l0.length c0) := (blk_cell BA0.out 0).trans rfl; have hz_BA0_1 : World.cell? (w6.alloc (Obj.cells #[.slice D4A l0.length D4c, .slice D4B l1.length D4d] 27)) ⟨w.heap.size, 1, none⟩ = some (.slice A1 l1.length c1) := (blk_cell BA0.out 1).trans rfl; have hz_BA1_0 : World.cell? (w6.alloc (Obj.cells #[.slice D4A l0.length D4c, .slice D4B l1.length D4d] 27)) ⟨w.heap.size + 1, 0, none⟩ = some (.slice A2 l2.length c2) := (blk_cell BA1.out 0).trans rfl; have hz_BA1_1 : World.cell? (w6.alloc (Obj.cells #[.slice D4A l0.length D4c, .slice D4B l1.length D4d] 27)) ⟨w.heap.size + 1, 1, none⟩ = some (.slice A3 l3.length c3) := (blk_cell BA1.out 1).trans rfl; have hz_BDW_0 : World.cell? (w6.alloc (Obj.cells #[.slice D4A l0.length D4c, .slice D4B l1.length D4d] 27)) ⟨g_DW, 0, none⟩ = some (.slice DWA ma.length DWc) := (blk_cell BDW.out 0).trans rfl; have hz_BDW_1 : World.cell? (w6.alloc (Obj.cells #[.slice D4A l0.length D4c, .slice D4B l1.length D4d] 27)) ⟨g_DW, 1, none⟩ = some (.slice DWB mn.length DWd) := (blk_cell BDW.out 1).trans rfl; have hz_BD4_0 : World.cell? (w6.alloc (Obj.cells #[.slice D4A l0.length D4c, .slice D4B l1.length D4d] 27)) ⟨w6.heap.size, 0, none⟩ = some (.slice D4A l0.length D4c) := (blk_cell BD4.out 0).trans rfl; have hz_BD4_1 : World.cell? (w6.alloc (Obj.cells #[.slice D4A l0.length D4c, .slice D4B l1.length D4d] 27)) ⟨w6.heap.size, 1, none⟩ = some (.slice D4B l1.length D4d) := (blk_cell BD4.out 1).trans rfl; refine ⟨_, rfl, ?_⟩)
      | ((with_reducible refine gate_callee (f := 14) rfl ?_); refine goesL_ (some 41) rfl rfl Try.func14 (by kernel_rfl) rfl #[.agg #[.slice A2 l2.length c2, .slice A3 l3.length c3]] rfl (by (try simp only [List.map_toArray, List.map_cons, List.map_nil]); first | done | rfl) ?_; (with_reducible refine (laws_toDfa.calls kt1 _ _ l2 _ _ l3 l2 l3 _ ?s1 HC2.out ?s2 HC3.out HKT1.out).mono ?_); (case s1 => exact Kd.C_below HR2.out HB_.out); (case s2 => exact Kd.C_below HR3.out HB_.out); rintro e w7 ⟨a0_, a1_, rfl, hf0, hf1, hb⟩; (try clear hz_BA0_0); (try clear hz_BA0_1); (try clear hz_BA1_0); (try clear hz_BA1_1); (try clear hz_BDW_0); (try clear hz_BDW_1); (try clear hz_BD4_0); (try clear hz_BD4_1); have p_DW_D6 := Aside0.mk DWh.out; have p_D4_D6 := Aside0.mk D4h.out; have p_BA0_D6 := Aside0.mk (blk_lt BA0.out); have p_BA1_D6 := Aside0.mk (blk_lt BA1.out); have p_BDW_D6 := Aside0.mk (blk_lt BDW.out); have p_BD4_D6 := Aside0.mk (blk_lt BD4.out); have D6h : Aside0 (w7.heap.size ≤ w7.heap.size) := ⟨Nat.le_refl _⟩; have D6_n := Aside0.mk (Dv.fresh (base := w.heap.size) HB_.out.size hf0 hf1); have HB__n := Aside0.mk (below_then HB_.out HB_.out.size hb); have BA0_n := Aside0.mk ((hb.block _ (blk_lt BA0.out)).trans BA0.out); have BA1_n := Aside0.mk ((hb.block _ (blk_lt BA1.out)).trans BA1.out); have BDW_n := Aside0.mk ((hb.block _ (blk_lt BDW.out)).trans BDW.out); have BD4_n := Aside0.mk ((hb.block _ (blk_lt BD4.out)).trans BD4.out); have DW_n := Aside0.mk (DW.out.below hb); have D4_n := Aside0.mk (D4.out.below hb); have DWh := Aside0.mk (Nat.le_trans DWh.out hb.size); have D4h := Aside0.mk (Nat.le_trans D4h.out hb.size); clear HB_ BA0 BA1 BDW BD4 DW D4; have HB_ := HB__n; have BA0 := BA0_n; have BA1 := BA1_n; have BDW := BDW_n; have BD4 := BD4_n; have DW := DW_n; have D4 := D4_n; clear HB__n BA0_n BA1_n BDW_n BD4_n DW_n D4_n; have D6 := D6_n; clear D6_n; clear hf0 hf1 hb; obtain ⟨D6A, D6c, D6B, D6d, e0, e1, hs0, hs1⟩ := D6.out.slices; subst e0; subst e1; have D6s := Aside0.mk hs0; have D6t := Aside0.mk hs1; clear hs0 hs1; have p_DW_BD6 := Aside0.mk DWh.out; have p_D4_BD6 := Aside0.mk D4h.out; have p_D6_BD6 := Aside0.mk D6h.out; have BD6_n := Aside0.mk (blk_new w7 (Obj.cells #[.slice D6A l2.length D6c, .slice D6B l3.length D6d] 27)); have HB__n := Aside0.mk (below_alloc HB_.out (Obj.cells #[.slice D6A l2.length D6c, .slice D6B l3.length D6d] 27)); have BA0_n := Aside0.mk (blk_alloc BA0.out (Obj.cells #[.slice D6A l2.length D6c, .slice D6B l3.length D6d] 27)); have BA1_n := Aside0.mk (blk_alloc BA1.out (Obj.cells #[.slice D6A l2.length D6c, .slice D6B l3.length D6d] 27)); have BDW_n := Aside0.mk (blk_alloc BDW.out (Obj.cells #[.slice D6A l2.length D6c, .slice D6B l3.length D6d] 27)); have BD4_n := Aside0.mk (blk_alloc BD4.out (Obj.cells #[.slice D6A l2.length D6c, .slice D6B l3.length D6d] 27)); have DW_n := Aside0.mk (DW.out.below (below_alloc (Below.refl _ _) (Obj.cells #[.slice D6A l2.length D6c, .slice D6B l3.length D6d] 27))); have D4_n := Aside0.mk (D4.out.below (below_alloc (Below.refl _ _) (Obj.cells #[.slice D6A l2.length D6c, .slice D6B l3.length D6d] 27))); have D6_n := Aside0.mk (D6.out.below (below_alloc (Below.refl _ _) (Obj.cells #[.slice D6A l2.length D6c, .slice D6B l3.length D6d] 27))); have DWh := Aside0.mk (Nat.le_trans DWh.out (below_alloc (Below.refl _ _) (Obj.cells #[.slice D6A l2.length D6c, .slice D6B l3.length D6d] 27)).size); have D4h := Aside0.mk (Nat.le_trans D4h.out (below_alloc (Below.refl _ _) (Obj.cells #[.slice D6A l2.length D6c, .slice D6B l3.length D6d] 27)).size); have D6h := Aside0.mk (Nat.le_trans D6h.out (below_alloc (Below.refl _ _) (Obj.cells #[.slice D6A l2.length D6c, .slice D6B l3.length D6d] 27)).size); clear HB_ BA0 BA1 BDW BD4 DW D4 D6; have HB_ := HB__n; have BA0 := BA0_n; have BA1 := BA1_n; have BDW := BDW_n; have BD4 := BD4_n; have DW := DW_n; have D4 := D4_n; have D6 := D6_n; clear HB__n BA0_n BA1_n BDW_n BD4_n DW_n D4_n D6_n; have BD6 := BD6_n; clear BD6_n; have hz_BA0_0 : World.cell? (w7.alloc (Obj.cells #[.slice D6A l2.length D6c, .slice D6B l3.length D6d] 27)) ⟨w.heap.size, 0, none⟩ = some (.slice A0 l0.length c0) := (blk_cell BA0.out 0).trans rfl; have hz_BA0_1 : World.cell? (w7.alloc (Obj.cells #[.slice D6A l2.length D6c, .slice D6B l3.length D6d] 27)) ⟨w.heap.size, 1, none⟩ = some (.slice A1 l1.length c1) := (blk_cell BA0.out 1).trans rfl; have hz_BA1_0 : World.cell? (w7.alloc (Obj.cells #[.slice D6A l2.length D6c, .slice D6B l3.length D6d] 27)) ⟨w.heap.size + 1, 0, none⟩ = some (.slice A2 l2.length c2) := (blk_cell BA1.out 0).trans rfl; have hz_BA1_1 : World.cell? (w7.alloc (Obj.cells #[.slice D6A l2.length D6c, .slice D6B l3.length D6d] 27)) ⟨w.heap.size + 1, 1, none⟩ = some (.slice A3 l3.length c3) := (blk_cell BA1.out 1).trans rfl; have hz_BDW_0 : World.cell? (w7.alloc (Obj.cells #[.slice D6A l2.length D6c, .slice D6B l3.length D6d] 27)) ⟨g_DW, 0, none⟩ = some (.slice DWA ma.length DWc) := (blk_cell BDW.out 0).trans rfl; have hz_BDW_1 : World.cell? (w7.alloc (Obj.cells #[.slice D6A l2.length D6c, .slice D6B l3.length D6d] 27)) ⟨g_DW, 1, none⟩ = some (.slice DWB mn.length DWd) := (blk_cell BDW.out 1).trans rfl; have hz_BD4_0 : World.cell? (w7.alloc (Obj.cells #[.slice D6A l2.length D6c, .slice D6B l3.length D6d] 27)) ⟨w6.heap.size, 0, none⟩ = some (.slice D4A l0.length D4c) := (blk_cell BD4.out 0).trans rfl; have hz_BD4_1 : World.cell? (w7.alloc (Obj.cells #[.slice D6A l2.length D6c, .slice D6B l3.length D6d] 27)) ⟨w6.heap.size, 1, none⟩ = some (.slice D4B l1.length D4d) := (blk_cell BD4.out 1).trans rfl; have hz_BD6_0 : World.cell? (w7.alloc (Obj.cells #[.slice D6A l2.length D6c, .slice D6B l3.length D6d] 27)) ⟨w7.heap.size, 0, none⟩ = some (.slice D6A l2.length D6c) := (blk_cell BD6.out 0).trans rfl; have hz_BD6_1 : World.cell? (w7.alloc (Obj.cells #[.slice D6A l2.length D6c, .slice D6B l3.length D6d] 27)) ⟨w7.heap.size, 1, none⟩ = some (.slice D6B l3.length D6d) := (blk_cell BD6.out 1).trans rfl; refine ⟨_, rfl, ?_⟩)
      | ((with_reducible refine gate_callee (f := 20) rfl ?_); refine goesL_ (some 46) rfl rfl Try.func20 (by kernel_rfl) rfl #[.agg #[.slice D4A l0.length D4c, .slice D4B l1.length D4d], .agg #[.slice D6A l2.length D6c, .slice D6B l3.length D6d], .int .i64 a2] rfl (by (try simp only [List.map_toArray, List.map_cons, List.map_nil]); first | done | rfl) ?_; (with_reducible refine (impl_ProductDfa.calls _ _ l0 _ _ l1 _ _ l2 _ _ l3 a2 ma mn ok _ ?s1 D4s.out ?s2 D4t.out ?s3 D6s.out ?s4 D6t.out HKI.out).mono ?_); (case s1 => exact D4.out.c0); (case s2 => exact D4.out.c1); (case s3 => exact D6.out.c0); (case s4 => exact D6.out.c1); rintro e w8 ⟨b0_, b1_, rfl, hf0, hf1, hb⟩; (try clear hz_BA0_0); (try clear hz_BA0_1); (try clear hz_BA1_0); (try clear hz_BA1_1); (try clear hz_BDW_0); (try clear hz_BDW_1); (try clear hz_BD4_0); (try clear hz_BD4_1); (try clear hz_BD6_0); (try clear hz_BD6_1); have p_DW_DG := Aside0.mk DWh.out; have p_D4_DG := Aside0.mk D4h.out; have p_D6_DG := Aside0.mk D6h.out; have p_BA0_DG := Aside0.mk (blk_lt BA0.out); have p_BA1_DG := Aside0.mk (blk_lt BA1.out); have p_BDW_DG := Aside0.mk (blk_lt BDW.out); have p_BD4_DG := Aside0.mk (blk_lt BD4.out); have p_BD6_DG := Aside0.mk (blk_lt BD6.out); have DGh : Aside0 (w8.heap.size ≤ w8.heap.size) := ⟨Nat.le_refl _⟩; have DG_n := Aside0.mk (Dv.fresh (base := w.heap.size) HB_.out.size hf0 hf1); have HB__n := Aside0.mk (below_then HB_.out HB_.out.size hb); have BA0_n := Aside0.mk ((hb.block _ (blk_lt BA0.out)).trans BA0.out); have BA1_n := Aside0.mk ((hb.block _ (blk_lt BA1.out)).trans BA1.out); have BDW_n := Aside0.mk ((hb.block _ (blk_lt BDW.out)).trans BDW.out); have BD4_n := Aside0.mk ((hb.block _ (blk_lt BD4.out)).trans BD4.out); have BD6_n := Aside0.mk ((hb.block _ (blk_lt BD6.out)).trans BD6.out); have DW_n := Aside0.mk (DW.out.below hb); have D4_n := Aside0.mk (D4.out.below hb); have D6_n := Aside0.mk (D6.out.below hb); have DWh := Aside0.mk (Nat.le_trans DWh.out hb.size); have D4h := Aside0.mk (Nat.le_trans D4h.out hb.size); have D6h := Aside0.mk (Nat.le_trans D6h.out hb.size); clear HB_ BA0 BA1 BDW BD4 BD6 DW D4 D6; have HB_ := HB__n; have BA0 := BA0_n; have BA1 := BA1_n; have BDW := BDW_n; have BD4 := BD4_n; have BD6 := BD6_n; have DW := DW_n; have D4 := D4_n; have D6 := D6_n; clear HB__n BA0_n BA1_n BDW_n BD4_n BD6_n DW_n D4_n D6_n; have DG := DG_n; clear DG_n; clear hf0 hf1 hb; obtain ⟨DGA, DGc, DGB, DGd, e0, e1, hs0, hs1⟩ := DG.out.slices; subst e0; subst e1; have DGs := Aside0.mk hs0; have DGt := Aside0.mk hs1; clear hs0 hs1; have p_DW_BDG := Aside0.mk DWh.out; have p_D4_BDG := Aside0.mk D4h.out; have p_D6_BDG := Aside0.mk D6h.out; have p_DG_BDG := Aside0.mk DGh.out; have BDG_n := Aside0.mk (blk_new w8 (Obj.cells #[.slice DGA ma.length DGc, .slice DGB mn.length DGd] 27)); have HB__n := Aside0.mk (below_alloc HB_.out (Obj.cells #[.slice DGA ma.length DGc, .slice DGB mn.length DGd] 27)); have BA0_n := Aside0.mk (blk_alloc BA0.out (Obj.cells #[.slice DGA ma.length DGc, .slice DGB mn.length DGd] 27)); have BA1_n := Aside0.mk (blk_alloc BA1.out (Obj.cells #[.slice DGA ma.length DGc, .slice DGB mn.length DGd] 27)); have BDW_n := Aside0.mk (blk_alloc BDW.out (Obj.cells #[.slice DGA ma.length DGc, .slice DGB mn.length DGd] 27)); have BD4_n := Aside0.mk (blk_alloc BD4.out (Obj.cells #[.slice DGA ma.length DGc, .slice DGB mn.length DGd] 27)); have BD6_n := Aside0.mk (blk_alloc BD6.out (Obj.cells #[.slice DGA ma.length DGc, .slice DGB mn.length DGd] 27)); have DW_n := Aside0.mk (DW.out.below (below_alloc (Below.refl _ _) (Obj.cells #[.slice DGA ma.length DGc, .slice DGB mn.length DGd] 27))); have D4_n := Aside0.mk (D4.out.below (below_alloc (Below.refl _ _) (Obj.cells #[.slice DGA ma.length DGc, .slice DGB mn.length DGd] 27))); have D6_n := Aside0.mk (D6.out.below (below_alloc (Below.refl _ _) (Obj.cells #[.slice DGA ma.length DGc, .slice DGB mn.length DGd] 27))); have DG_n := Aside0.mk (DG.out.below (below_alloc (Below.refl _ _) (Obj.cells #[.slice DGA ma.length DGc, .slice DGB mn.length DGd] 27))); have DWh := Aside0.mk (Nat.le_trans DWh.out (below_alloc (Below.refl _ _) (Obj.cells #[.slice DGA ma.length DGc, .slice DGB mn.length DGd] 27)).size); have D4h := Aside0.mk (Nat.le_trans D4h.out (below_alloc (Below.refl _ _) (Obj.cells #[.slice DGA ma.length DGc, .slice DGB mn.length DGd] 27)).size); have D6h := Aside0.mk (Nat.le_trans D6h.out (below_alloc (Below.refl _ _) (Obj.cells #[.slice DGA ma.length DGc, .slice DGB mn.length DGd] 27)).size); have DGh := Aside0.mk (Nat.le_trans DGh.out (below_alloc (Below.refl _ _) (Obj.cells #[.slice DGA ma.length DGc, .slice DGB mn.length DGd] 27)).size); clear HB_ BA0 BA1 BDW BD4 BD6 DW D4 D6 DG; have HB_ := HB__n; have BA0 := BA0_n; have BA1 := BA1_n; have BDW := BDW_n; have BD4 := BD4_n; have BD6 := BD6_n; have DW := DW_n; have D4 := D4_n; have D6 := D6_n; have DG := DG_n; clear HB__n BA0_n BA1_n BDW_n BD4_n BD6_n DW_n D4_n D6_n DG_n; have BDG := BDG_n; clear BDG_n; have hz_BA0_0 : World.cell? (w8.alloc (Obj.cells #[.slice DGA ma.length DGc, .slice DGB mn.length DGd] 27)) ⟨w.heap.size, 0, none⟩ = some (.slice A0 l0.length c0) := (blk_cell BA0.out 0).trans rfl; have hz_BA0_1 : World.cell? (w8.alloc (Obj.cells #[.slice DGA ma.length DGc, .slice DGB mn.length DGd] 27)) ⟨w.heap.size, 1, none⟩ = some (.slice A1 l1.length c1) := (blk_cell BA0.out 1).trans rfl; have hz_BA1_0 : World.cell? (w8.alloc (Obj.cells #[.slice DGA ma.length DGc, .slice DGB mn.length DGd] 27)) ⟨w.heap.size + 1, 0, none⟩ = some (.slice A2 l2.length c2) := (blk_cell BA1.out 0).trans rfl; have hz_BA1_1 : World.cell? (w8.alloc (Obj.cells #[.slice DGA ma.length DGc, .slice DGB mn.length DGd] 27)) ⟨w.heap.size + 1, 1, none⟩ = some (.slice A3 l3.length c3) := (blk_cell BA1.out 1).trans rfl; have hz_BDW_0 : World.cell? (w8.alloc (Obj.cells #[.slice DGA ma.length DGc, .slice DGB mn.length DGd] 27)) ⟨g_DW, 0, none⟩ = some (.slice DWA ma.length DWc) := (blk_cell BDW.out 0).trans rfl; have hz_BDW_1 : World.cell? (w8.alloc (Obj.cells #[.slice DGA ma.length DGc, .slice DGB mn.length DGd] 27)) ⟨g_DW, 1, none⟩ = some (.slice DWB mn.length DWd) := (blk_cell BDW.out 1).trans rfl; have hz_BD4_0 : World.cell? (w8.alloc (Obj.cells #[.slice DGA ma.length DGc, .slice DGB mn.length DGd] 27)) ⟨w6.heap.size, 0, none⟩ = some (.slice D4A l0.length D4c) := (blk_cell BD4.out 0).trans rfl; have hz_BD4_1 : World.cell? (w8.alloc (Obj.cells #[.slice DGA ma.length DGc, .slice DGB mn.length DGd] 27)) ⟨w6.heap.size, 1, none⟩ = some (.slice D4B l1.length D4d) := (blk_cell BD4.out 1).trans rfl; have hz_BD6_0 : World.cell? (w8.alloc (Obj.cells #[.slice DGA ma.length DGc, .slice DGB mn.length DGd] 27)) ⟨w7.heap.size, 0, none⟩ = some (.slice D6A l2.length D6c) := (blk_cell BD6.out 0).trans rfl; have hz_BD6_1 : World.cell? (w8.alloc (Obj.cells #[.slice DGA ma.length DGc, .slice DGB mn.length DGd] 27)) ⟨w7.heap.size, 1, none⟩ = some (.slice D6B l3.length D6d) := (blk_cell BD6.out 1).trans rfl; have hz_BDG_0 : World.cell? (w8.alloc (Obj.cells #[.slice DGA ma.length DGc, .slice DGB mn.length DGd] 27)) ⟨w8.heap.size, 0, none⟩ = some (.slice DGA ma.length DGc) := (blk_cell BDG.out 0).trans rfl; have hz_BDG_1 : World.cell? (w8.alloc (Obj.cells #[.slice DGA ma.length DGc, .slice DGB mn.length DGd] 27)) ⟨w8.heap.size, 1, none⟩ = some (.slice DGB mn.length DGd) := (blk_cell BDG.out 1).trans rfl; refine ⟨_, rfl, ?_⟩)
      | ((with_reducible refine gate_callee (f := 16) rfl ?_); refine goesL_ (some 51) rfl rfl Try.func16 (by kernel_rfl) rfl #[.agg #[.slice DGA ma.length DGc, .slice DGB mn.length DGd], .agg #[.slice DWA ma.length DWc, .slice DWB mn.length DWd]] rfl (by (try simp only [List.map_toArray, List.map_cons, List.map_nil]); first | done | rfl) ?_; (with_reducible refine (laws_eqDfa.calls keq _ _ ma _ _ mn _ _ ma _ _ mn true _ ?s1 DGs.out ?s2 DGt.out ?s3 DWs.out ?s4 DWt.out HKEq.out).mono ?_); (case s1 => exact DG.out.c0); (case s2 => exact DG.out.c1); (case s3 => exact DW.out.c0); (case s4 => exact DW.out.c1); rintro e w9 ⟨rfl, hb⟩; (try clear hz_BA0_0); (try clear hz_BA0_1); (try clear hz_BA1_0); (try clear hz_BA1_1); (try clear hz_BDW_0); (try clear hz_BDW_1); (try clear hz_BD4_0); (try clear hz_BD4_1); (try clear hz_BD6_0); (try clear hz_BD6_1); (try clear hz_BDG_0); (try clear hz_BDG_1); have HB__n := Aside0.mk (below_then HB_.out HB_.out.size hb); have BA0_n := Aside0.mk ((hb.block _ (blk_lt BA0.out)).trans BA0.out); have BA1_n := Aside0.mk ((hb.block _ (blk_lt BA1.out)).trans BA1.out); have BDW_n := Aside0.mk ((hb.block _ (blk_lt BDW.out)).trans BDW.out); have BD4_n := Aside0.mk ((hb.block _ (blk_lt BD4.out)).trans BD4.out); have BD6_n := Aside0.mk ((hb.block _ (blk_lt BD6.out)).trans BD6.out); have BDG_n := Aside0.mk ((hb.block _ (blk_lt BDG.out)).trans BDG.out); have DW_n := Aside0.mk (DW.out.below hb); have D4_n := Aside0.mk (D4.out.below hb); have D6_n := Aside0.mk (D6.out.below hb); have DG_n := Aside0.mk (DG.out.below hb); have DWh := Aside0.mk (Nat.le_trans DWh.out hb.size); have D4h := Aside0.mk (Nat.le_trans D4h.out hb.size); have D6h := Aside0.mk (Nat.le_trans D6h.out hb.size); have DGh := Aside0.mk (Nat.le_trans DGh.out hb.size); clear HB_ BA0 BA1 BDW BD4 BD6 BDG DW D4 D6 DG; have HB_ := HB__n; have BA0 := BA0_n; have BA1 := BA1_n; have BDW := BDW_n; have BD4 := BD4_n; have BD6 := BD6_n; have BDG := BDG_n; have DW := DW_n; have D4 := D4_n; have D6 := D6_n; have DG := DG_n; clear HB__n BA0_n BA1_n BDW_n BD4_n BD6_n BDG_n DW_n D4_n D6_n DG_n; clear hb; have hz_BA0_0 : World.cell? w9 ⟨w.heap.size, 0, none⟩ = some (.slice A0 l0.length c0) := (blk_cell BA0.out 0).trans rfl; have hz_BA0_1 : World.cell? w9 ⟨w.heap.size, 1, none⟩ = some (.slice A1 l1.length c1) := (blk_cell BA0.out 1).trans rfl; have hz_BA1_0 : World.cell? w9 ⟨w.heap.size + 1, 0, none⟩ = some (.slice A2 l2.length c2) := (blk_cell BA1.out 0).trans rfl; have hz_BA1_1 : World.cell? w9 ⟨w.heap.size + 1, 1, none⟩ = some (.slice A3 l3.length c3) := (blk_cell BA1.out 1).trans rfl; have hz_BDW_0 : World.cell? w9 ⟨g_DW, 0, none⟩ = some (.slice DWA ma.length DWc) := (blk_cell BDW.out 0).trans rfl; have hz_BDW_1 : World.cell? w9 ⟨g_DW, 1, none⟩ = some (.slice DWB mn.length DWd) := (blk_cell BDW.out 1).trans rfl; have hz_BD4_0 : World.cell? w9 ⟨w6.heap.size, 0, none⟩ = some (.slice D4A l0.length D4c) := (blk_cell BD4.out 0).trans rfl; have hz_BD4_1 : World.cell? w9 ⟨w6.heap.size, 1, none⟩ = some (.slice D4B l1.length D4d) := (blk_cell BD4.out 1).trans rfl; have hz_BD6_0 : World.cell? w9 ⟨w7.heap.size, 0, none⟩ = some (.slice D6A l2.length D6c) := (blk_cell BD6.out 0).trans rfl; have hz_BD6_1 : World.cell? w9 ⟨w7.heap.size, 1, none⟩ = some (.slice D6B l3.length D6d) := (blk_cell BD6.out 1).trans rfl; have hz_BDG_0 : World.cell? w9 ⟨w8.heap.size, 0, none⟩ = some (.slice DGA ma.length DGc) := (blk_cell BDG.out 0).trans rfl; have hz_BDG_1 : World.cell? w9 ⟨w8.heap.size, 1, none⟩ = some (.slice DGB mn.length DGd) := (blk_cell BDG.out 1).trans rfl; refine ⟨_, rfl, ?_⟩))
    refine start_ (n := 5) (S := (fun w' => w'.cell? ⟨w6.heap.size, 0, none⟩ = some (.slice D4A l0.length D4c) ∧ w'.cell? ⟨w6.heap.size, 1, none⟩ = some (.slice D4B l1.length D4d) ∧ w'.cell? ⟨w.heap.size, 0, none⟩ = some (.slice A0 l0.length c0) ∧ w'.cell? ⟨w.heap.size, 1, none⟩ = some (.slice A1 l1.length c1))) (ds := []) #[false, false, false, false, false] (by kernel_rfl) rfl rfl (⟨(blk_cell BD4.out 0).trans rfl, (blk_cell BD4.out 1).trans rfl, (blk_cell BA0.out 0).trans rfl, (blk_cell BA0.out 1).trans rfl⟩) (fun hHeld => ?_); refine with_tabW tab14Pd bits14Pd (fun HT_ HW_ => ?_)
    (try clear hz_BA0_0)
    (try clear hz_BA0_1)
    (try clear hz_BA1_0)
    (try clear hz_BA1_1)
    (try clear hz_BDW_0)
    (try clear hz_BDW_1)
    (try clear hz_BD4_0)
    (try clear hz_BD4_1)
    (try clear hz_BD6_0)
    (try clear hz_BD6_1)
    (try clear hz_BDG_0)
    (try clear hz_BDG_1)
    have hb := below_drew1 (Below.refl w9.heap.size w9)
    have HB__n := Aside0.mk (below_then HB_.out HB_.out.size hb)
    have BA0_n := Aside0.mk ((hb.block _ (blk_lt BA0.out)).trans BA0.out)
    have BA1_n := Aside0.mk ((hb.block _ (blk_lt BA1.out)).trans BA1.out)
    have BDW_n := Aside0.mk ((hb.block _ (blk_lt BDW.out)).trans BDW.out)
    have BD4_n := Aside0.mk ((hb.block _ (blk_lt BD4.out)).trans BD4.out)
    have BD6_n := Aside0.mk ((hb.block _ (blk_lt BD6.out)).trans BD6.out)
    have BDG_n := Aside0.mk ((hb.block _ (blk_lt BDG.out)).trans BDG.out)
    have DW_n := Aside0.mk (DW.out.below hb)
    have D4_n := Aside0.mk (D4.out.below hb)
    have D6_n := Aside0.mk (D6.out.below hb)
    have DG_n := Aside0.mk (DG.out.below hb)
    have DWh := Aside0.mk (Nat.le_trans DWh.out hb.size)
    have D4h := Aside0.mk (Nat.le_trans D4h.out hb.size)
    have D6h := Aside0.mk (Nat.le_trans D6h.out hb.size)
    have DGh := Aside0.mk (Nat.le_trans DGh.out hb.size)
    clear HB_ BA0 BA1 BDW BD4 BD6 BDG DW D4 D6 DG
    have HB_ := HB__n
    have BA0 := BA0_n
    have BA1 := BA1_n
    have BDW := BDW_n
    have BD4 := BD4_n
    have BD6 := BD6_n
    have BDG := BDG_n
    have DW := DW_n
    have D4 := D4_n
    have D6 := D6_n
    have DG := DG_n
    clear HB__n BA0_n BA1_n BDW_n BD4_n BD6_n BDG_n DW_n D4_n D6_n DG_n
    clear hb
    generalize w9.drew = w10 at HB_ BA0 BA1 BDW BD4 BD6 BDG DW D4 D6 DG DWh D4h D6h DGh hHeld ⊢
    refine take_ (i := 0) (N := some 58) (v := ?_) (a' := ?_) #[true, false, false, false, false] rfl rfl (take_ofW HT_.out HW_.out (by kernel_rfl)) (fun _ _ _ h => h) (Or.inl ⟨by rfl, ?_⟩) hHeld ?_ ?_
    rotate_left
    · rintro w' ⟨t0, t1, t2, t3⟩
      go_simp
      with_reducible rfl
    rotate_left
    · simp only [Act.put, List.setIfInBounds_toArray, List.set_cons_zero, List.set_cons_succ, i64_w, i32_w]
      rfl
    refine take_ (i := 1) (N := some 59) (v := ?_) (a' := ?_) #[true, true, false, false, false] rfl rfl (take_ofW HT_.out HW_.out (by kernel_rfl)) (fun _ _ _ h => h) (Or.inl ⟨by rfl, ?_⟩) hHeld ?_ ?_
    rotate_left
    · rintro w' ⟨t0, t1, t2, t3⟩
      go_simp
      with_reducible rfl
    rotate_left
    · simp only [Act.put, List.setIfInBounds_toArray, List.set_cons_zero, List.set_cons_succ, i64_w, i32_w]
      rfl
    refine one_ (i := 2) (N := some 60) #[true, true, true, false, false] rfl rfl (one_of HT_.out (by kernel_rfl)) (by decide) (fun K hK => ?_)
    refine goes_ Try.func14 (by kernel_rfl) rfl #[.agg #[.slice A0 l0.length c0, .slice A1 l1.length c1]] (by rfl) rfl rfl (by (try simp only [List.map_toArray, List.map_cons, List.map_nil]); first | done | rfl) ?_
    with_reducible refine (laws_toDfa.calls kt0 _ _ l0 _ _ l1 l0 l1 _ ?s1 HC0.out ?s2 HC1.out HKT0.out).mono ?_
    (case s1 => exact Kd.C_below HR0.out HB_.out)
    (case s2 => exact Kd.C_below HR1.out HB_.out)
    rintro e w11 ⟨y0, y1, rfl, hf0, hf1, hb⟩
    refine ⟨_, rfl, ?_⟩
    have p_DW_DY0 := Aside0.mk DWh.out
    have p_D4_DY0 := Aside0.mk D4h.out
    have p_D6_DY0 := Aside0.mk D6h.out
    have p_DG_DY0 := Aside0.mk DGh.out
    have p_BA0_DY0 := Aside0.mk (blk_lt BA0.out)
    have p_BA1_DY0 := Aside0.mk (blk_lt BA1.out)
    have p_BDW_DY0 := Aside0.mk (blk_lt BDW.out)
    have p_BD4_DY0 := Aside0.mk (blk_lt BD4.out)
    have p_BD6_DY0 := Aside0.mk (blk_lt BD6.out)
    have p_BDG_DY0 := Aside0.mk (blk_lt BDG.out)
    have DY0h : Aside0 (w11.heap.size ≤ w11.heap.size) := ⟨Nat.le_refl _⟩
    have DY0_n := Aside0.mk (Dv.fresh (base := w.heap.size) HB_.out.size hf0 hf1)
    have HB__n := Aside0.mk (below_then HB_.out HB_.out.size hb)
    have BA0_n := Aside0.mk ((hb.block _ (blk_lt BA0.out)).trans BA0.out)
    have BA1_n := Aside0.mk ((hb.block _ (blk_lt BA1.out)).trans BA1.out)
    have BDW_n := Aside0.mk ((hb.block _ (blk_lt BDW.out)).trans BDW.out)
    have BD4_n := Aside0.mk ((hb.block _ (blk_lt BD4.out)).trans BD4.out)
    have BD6_n := Aside0.mk ((hb.block _ (blk_lt BD6.out)).trans BD6.out)
    have BDG_n := Aside0.mk ((hb.block _ (blk_lt BDG.out)).trans BDG.out)
    have DW_n := Aside0.mk (DW.out.below hb)
    have D4_n := Aside0.mk (D4.out.below hb)
    have D6_n := Aside0.mk (D6.out.below hb)
    have DG_n := Aside0.mk (DG.out.below hb)
    have DWh := Aside0.mk (Nat.le_trans DWh.out hb.size)
    have D4h := Aside0.mk (Nat.le_trans D4h.out hb.size)
    have D6h := Aside0.mk (Nat.le_trans D6h.out hb.size)
    have DGh := Aside0.mk (Nat.le_trans DGh.out hb.size)
    clear HB_ BA0 BA1 BDW BD4 BD6 BDG DW D4 D6 DG
    have HB_ := HB__n
    have BA0 := BA0_n
    have BA1 := BA1_n
    have BDW := BDW_n
    have BD4 := BD4_n
    have BD6 := BD6_n
    have BDG := BDG_n
    have DW := DW_n
    have D4 := D4_n
    have D6 := D6_n
    have DG := DG_n
    clear HB__n BA0_n BA1_n BDW_n BD4_n BD6_n BDG_n DW_n D4_n D6_n DG_n
    have DY0 := DY0_n
    clear DY0_n
    clear hf0 hf1 hb
    obtain ⟨DY0A, DY0c, DY0B, DY0d, e0, e1, hs0, hs1⟩ := DY0.out.slices
    subst e0
    subst e1
    have DY0s := Aside0.mk hs0
    have DY0t := Aside0.mk hs1
    clear hs0 hs1
    refine hK.out _ _ (⟨(blk_cell BD4.out 0).trans rfl, (blk_cell BD4.out 1).trans rfl, (blk_cell BA0.out 0).trans rfl, (blk_cell BA0.out 1).trans rfl⟩) (fun hHeld => ?_)
    clear hK K
    refine norm_ (a' := ?_) ?_ ?_
    rotate_left
    · show Act.put _ (some 60) _ = _
      simp only [Act.put, List.setIfInBounds_toArray, List.set_cons_zero, List.set_cons_succ, i64_w, i32_w]
      rfl
    refine one_ (i := 3) (N := some 61) #[true, true, true, true, false] rfl rfl (one_of HT_.out (by kernel_rfl)) (by decide) (fun K hK => ?_)
    refine goes_ Try.func16 (by kernel_rfl) rfl #[.agg #[.slice D4A l0.length D4c, .slice D4B l1.length D4d], .agg #[.slice DY0A l0.length DY0c, .slice DY0B l1.length DY0d]] (by rfl) rfl rfl (by (try simp only [List.map_toArray, List.map_cons, List.map_nil]); first | done | rfl) ?_
    with_reducible refine (laws_eqDfa.calls ke0 _ _ l0 _ _ l1 _ _ l0 _ _ l1 true _ ?s1 D4s.out ?s2 D4t.out ?s3 DY0s.out ?s4 DY0t.out HKE0.out).mono ?_
    (case s1 => exact D4.out.c0)
    (case s2 => exact D4.out.c1)
    (case s3 => exact DY0.out.c0)
    (case s4 => exact DY0.out.c1)
    rintro e w12 ⟨rfl, hb⟩
    refine ⟨_, rfl, ?_⟩
    have HB__n := Aside0.mk (below_then HB_.out HB_.out.size hb)
    have BA0_n := Aside0.mk ((hb.block _ (blk_lt BA0.out)).trans BA0.out)
    have BA1_n := Aside0.mk ((hb.block _ (blk_lt BA1.out)).trans BA1.out)
    have BDW_n := Aside0.mk ((hb.block _ (blk_lt BDW.out)).trans BDW.out)
    have BD4_n := Aside0.mk ((hb.block _ (blk_lt BD4.out)).trans BD4.out)
    have BD6_n := Aside0.mk ((hb.block _ (blk_lt BD6.out)).trans BD6.out)
    have BDG_n := Aside0.mk ((hb.block _ (blk_lt BDG.out)).trans BDG.out)
    have DW_n := Aside0.mk (DW.out.below hb)
    have D4_n := Aside0.mk (D4.out.below hb)
    have D6_n := Aside0.mk (D6.out.below hb)
    have DG_n := Aside0.mk (DG.out.below hb)
    have DY0_n := Aside0.mk (DY0.out.below hb)
    have DWh := Aside0.mk (Nat.le_trans DWh.out hb.size)
    have D4h := Aside0.mk (Nat.le_trans D4h.out hb.size)
    have D6h := Aside0.mk (Nat.le_trans D6h.out hb.size)
    have DGh := Aside0.mk (Nat.le_trans DGh.out hb.size)
    have DY0h := Aside0.mk (Nat.le_trans DY0h.out hb.size)
    clear HB_ BA0 BA1 BDW BD4 BD6 BDG DW D4 D6 DG DY0
    have HB_ := HB__n
    have BA0 := BA0_n
    have BA1 := BA1_n
    have BDW := BDW_n
    have BD4 := BD4_n
    have BD6 := BD6_n
    have BDG := BDG_n
    have DW := DW_n
    have D4 := D4_n
    have D6 := D6_n
    have DG := DG_n
    have DY0 := DY0_n
    clear HB__n BA0_n BA1_n BDW_n BD4_n BD6_n BDG_n DW_n D4_n D6_n DG_n DY0_n
    clear hb
    refine hK.out _ _ (⟨(blk_cell BD4.out 0).trans rfl, (blk_cell BD4.out 1).trans rfl, (blk_cell BA0.out 0).trans rfl, (blk_cell BA0.out 1).trans rfl⟩) (fun hHeld => ?_)
    clear hK K
    refine norm_ (a' := ?_) ?_ ?_
    rotate_left
    · show Act.put _ (some 61) _ = _
      simp only [Act.put, List.setIfInBounds_toArray, List.set_cons_zero, List.set_cons_succ, i64_w, i32_w]
      rfl
    refine pure_ (i := 4) (N := some 62) (v := ?_) (a' := ?_) #[true, true, true, true, true] rfl rfl (any_of HT_.out (by kernel_rfl)) (fun _ _ _ h => h) (Or.inl ⟨by rfl, ?_⟩) ?_ ?_
    rotate_left
    · intro w'
      go_simp
      with_reducible rfl
    rotate_left
    · simp only [Act.put, List.setIfInBounds_toArray, List.set_cons_zero, List.set_cons_succ, i64_w, i32_w]
      rfl
    refine done_ (done_of HT_.out (by kernel_rfl)) ?_
    clear HT_ HW_ hHeld
    clear DY0 DY0s DY0t DY0h
    have hz_BA0_0 : World.cell? w12 ⟨w.heap.size, 0, none⟩ = some (.slice A0 l0.length c0) := (blk_cell BA0.out 0).trans rfl
    have hz_BA0_1 : World.cell? w12 ⟨w.heap.size, 1, none⟩ = some (.slice A1 l1.length c1) := (blk_cell BA0.out 1).trans rfl
    have hz_BA1_0 : World.cell? w12 ⟨w.heap.size + 1, 0, none⟩ = some (.slice A2 l2.length c2) := (blk_cell BA1.out 0).trans rfl
    have hz_BA1_1 : World.cell? w12 ⟨w.heap.size + 1, 1, none⟩ = some (.slice A3 l3.length c3) := (blk_cell BA1.out 1).trans rfl
    have hz_BDW_0 : World.cell? w12 ⟨g_DW, 0, none⟩ = some (.slice DWA ma.length DWc) := (blk_cell BDW.out 0).trans rfl
    have hz_BDW_1 : World.cell? w12 ⟨g_DW, 1, none⟩ = some (.slice DWB mn.length DWd) := (blk_cell BDW.out 1).trans rfl
    have hz_BD4_0 : World.cell? w12 ⟨w6.heap.size, 0, none⟩ = some (.slice D4A l0.length D4c) := (blk_cell BD4.out 0).trans rfl
    have hz_BD4_1 : World.cell? w12 ⟨w6.heap.size, 1, none⟩ = some (.slice D4B l1.length D4d) := (blk_cell BD4.out 1).trans rfl
    have hz_BD6_0 : World.cell? w12 ⟨w7.heap.size, 0, none⟩ = some (.slice D6A l2.length D6c) := (blk_cell BD6.out 0).trans rfl
    have hz_BD6_1 : World.cell? w12 ⟨w7.heap.size, 1, none⟩ = some (.slice D6B l3.length D6d) := (blk_cell BD6.out 1).trans rfl
    have hz_BDG_0 : World.cell? w12 ⟨w8.heap.size, 0, none⟩ = some (.slice DGA ma.length DGc) := (blk_cell BDG.out 0).trans rfl
    have hz_BDG_1 : World.cell? w12 ⟨w8.heap.size, 1, none⟩ = some (.slice DGB mn.length DGd) := (blk_cell BDG.out 1).trans rfl
    go_wp2
    refine start_ (n := 5) (S := (fun w' => w'.cell? ⟨w7.heap.size, 0, none⟩ = some (.slice D6A l2.length D6c) ∧ w'.cell? ⟨w7.heap.size, 1, none⟩ = some (.slice D6B l3.length D6d) ∧ w'.cell? ⟨w.heap.size + 1, 0, none⟩ = some (.slice A2 l2.length c2) ∧ w'.cell? ⟨w.heap.size + 1, 1, none⟩ = some (.slice A3 l3.length c3))) (ds := []) #[false, false, false, false, false] (by kernel_rfl) rfl rfl (⟨(blk_cell BD6.out 0).trans rfl, (blk_cell BD6.out 1).trans rfl, (blk_cell BA1.out 0).trans rfl, (blk_cell BA1.out 1).trans rfl⟩) (fun hHeld => ?_); refine with_tabW tab16Pd bits16Pd (fun HT_ HW_ => ?_)
    (try clear hz_BA0_0)
    (try clear hz_BA0_1)
    (try clear hz_BA1_0)
    (try clear hz_BA1_1)
    (try clear hz_BDW_0)
    (try clear hz_BDW_1)
    (try clear hz_BD4_0)
    (try clear hz_BD4_1)
    (try clear hz_BD6_0)
    (try clear hz_BD6_1)
    (try clear hz_BDG_0)
    (try clear hz_BDG_1)
    have hb := below_drew1 (Below.refl w12.heap.size w12)
    have HB__n := Aside0.mk (below_then HB_.out HB_.out.size hb)
    have BA0_n := Aside0.mk ((hb.block _ (blk_lt BA0.out)).trans BA0.out)
    have BA1_n := Aside0.mk ((hb.block _ (blk_lt BA1.out)).trans BA1.out)
    have BDW_n := Aside0.mk ((hb.block _ (blk_lt BDW.out)).trans BDW.out)
    have BD4_n := Aside0.mk ((hb.block _ (blk_lt BD4.out)).trans BD4.out)
    have BD6_n := Aside0.mk ((hb.block _ (blk_lt BD6.out)).trans BD6.out)
    have BDG_n := Aside0.mk ((hb.block _ (blk_lt BDG.out)).trans BDG.out)
    have DW_n := Aside0.mk (DW.out.below hb)
    have D4_n := Aside0.mk (D4.out.below hb)
    have D6_n := Aside0.mk (D6.out.below hb)
    have DG_n := Aside0.mk (DG.out.below hb)
    have DWh := Aside0.mk (Nat.le_trans DWh.out hb.size)
    have D4h := Aside0.mk (Nat.le_trans D4h.out hb.size)
    have D6h := Aside0.mk (Nat.le_trans D6h.out hb.size)
    have DGh := Aside0.mk (Nat.le_trans DGh.out hb.size)
    clear HB_ BA0 BA1 BDW BD4 BD6 BDG DW D4 D6 DG
    have HB_ := HB__n
    have BA0 := BA0_n
    have BA1 := BA1_n
    have BDW := BDW_n
    have BD4 := BD4_n
    have BD6 := BD6_n
    have BDG := BDG_n
    have DW := DW_n
    have D4 := D4_n
    have D6 := D6_n
    have DG := DG_n
    clear HB__n BA0_n BA1_n BDW_n BD4_n BD6_n BDG_n DW_n D4_n D6_n DG_n
    clear hb
    generalize w12.drew = w13 at HB_ BA0 BA1 BDW BD4 BD6 BDG DW D4 D6 DG DWh D4h D6h DGh hHeld ⊢
    refine take_ (i := 0) (N := some 63) (v := ?_) (a' := ?_) #[true, false, false, false, false] rfl rfl (take_ofW HT_.out HW_.out (by kernel_rfl)) (fun _ _ _ h => h) (Or.inl ⟨by rfl, ?_⟩) hHeld ?_ ?_
    rotate_left
    · rintro w' ⟨t0, t1, t2, t3⟩
      go_simp
      with_reducible rfl
    rotate_left
    · simp only [Act.put, List.setIfInBounds_toArray, List.set_cons_zero, List.set_cons_succ, i64_w, i32_w]
      rfl
    refine take_ (i := 1) (N := some 64) (v := ?_) (a' := ?_) #[true, true, false, false, false] rfl rfl (take_ofW HT_.out HW_.out (by kernel_rfl)) (fun _ _ _ h => h) (Or.inl ⟨by rfl, ?_⟩) hHeld ?_ ?_
    rotate_left
    · rintro w' ⟨t0, t1, t2, t3⟩
      go_simp
      with_reducible rfl
    rotate_left
    · simp only [Act.put, List.setIfInBounds_toArray, List.set_cons_zero, List.set_cons_succ, i64_w, i32_w]
      rfl
    refine one_ (i := 2) (N := some 65) #[true, true, true, false, false] rfl rfl (one_of HT_.out (by kernel_rfl)) (by decide) (fun K hK => ?_)
    refine goes_ Try.func14 (by kernel_rfl) rfl #[.agg #[.slice A2 l2.length c2, .slice A3 l3.length c3]] (by rfl) rfl rfl (by (try simp only [List.map_toArray, List.map_cons, List.map_nil]); first | done | rfl) ?_
    with_reducible refine (laws_toDfa.calls kt1 _ _ l2 _ _ l3 l2 l3 _ ?s1 HC2.out ?s2 HC3.out HKT1.out).mono ?_
    (case s1 => exact Kd.C_below HR2.out HB_.out)
    (case s2 => exact Kd.C_below HR3.out HB_.out)
    rintro e w14 ⟨y0, y1, rfl, hf0, hf1, hb⟩
    refine ⟨_, rfl, ?_⟩
    have p_DW_DY1 := Aside0.mk DWh.out
    have p_D4_DY1 := Aside0.mk D4h.out
    have p_D6_DY1 := Aside0.mk D6h.out
    have p_DG_DY1 := Aside0.mk DGh.out
    have p_BA0_DY1 := Aside0.mk (blk_lt BA0.out)
    have p_BA1_DY1 := Aside0.mk (blk_lt BA1.out)
    have p_BDW_DY1 := Aside0.mk (blk_lt BDW.out)
    have p_BD4_DY1 := Aside0.mk (blk_lt BD4.out)
    have p_BD6_DY1 := Aside0.mk (blk_lt BD6.out)
    have p_BDG_DY1 := Aside0.mk (blk_lt BDG.out)
    have DY1h : Aside0 (w14.heap.size ≤ w14.heap.size) := ⟨Nat.le_refl _⟩
    have DY1_n := Aside0.mk (Dv.fresh (base := w.heap.size) HB_.out.size hf0 hf1)
    have HB__n := Aside0.mk (below_then HB_.out HB_.out.size hb)
    have BA0_n := Aside0.mk ((hb.block _ (blk_lt BA0.out)).trans BA0.out)
    have BA1_n := Aside0.mk ((hb.block _ (blk_lt BA1.out)).trans BA1.out)
    have BDW_n := Aside0.mk ((hb.block _ (blk_lt BDW.out)).trans BDW.out)
    have BD4_n := Aside0.mk ((hb.block _ (blk_lt BD4.out)).trans BD4.out)
    have BD6_n := Aside0.mk ((hb.block _ (blk_lt BD6.out)).trans BD6.out)
    have BDG_n := Aside0.mk ((hb.block _ (blk_lt BDG.out)).trans BDG.out)
    have DW_n := Aside0.mk (DW.out.below hb)
    have D4_n := Aside0.mk (D4.out.below hb)
    have D6_n := Aside0.mk (D6.out.below hb)
    have DG_n := Aside0.mk (DG.out.below hb)
    have DWh := Aside0.mk (Nat.le_trans DWh.out hb.size)
    have D4h := Aside0.mk (Nat.le_trans D4h.out hb.size)
    have D6h := Aside0.mk (Nat.le_trans D6h.out hb.size)
    have DGh := Aside0.mk (Nat.le_trans DGh.out hb.size)
    clear HB_ BA0 BA1 BDW BD4 BD6 BDG DW D4 D6 DG
    have HB_ := HB__n
    have BA0 := BA0_n
    have BA1 := BA1_n
    have BDW := BDW_n
    have BD4 := BD4_n
    have BD6 := BD6_n
    have BDG := BDG_n
    have DW := DW_n
    have D4 := D4_n
    have D6 := D6_n
    have DG := DG_n
    clear HB__n BA0_n BA1_n BDW_n BD4_n BD6_n BDG_n DW_n D4_n D6_n DG_n
    have DY1 := DY1_n
    clear DY1_n
    clear hf0 hf1 hb
    obtain ⟨DY1A, DY1c, DY1B, DY1d, e0, e1, hs0, hs1⟩ := DY1.out.slices
    subst e0
    subst e1
    have DY1s := Aside0.mk hs0
    have DY1t := Aside0.mk hs1
    clear hs0 hs1
    refine hK.out _ _ (⟨(blk_cell BD6.out 0).trans rfl, (blk_cell BD6.out 1).trans rfl, (blk_cell BA1.out 0).trans rfl, (blk_cell BA1.out 1).trans rfl⟩) (fun hHeld => ?_)
    clear hK K
    refine norm_ (a' := ?_) ?_ ?_
    rotate_left
    · show Act.put _ (some 65) _ = _
      simp only [Act.put, List.setIfInBounds_toArray, List.set_cons_zero, List.set_cons_succ, i64_w, i32_w]
      rfl
    refine one_ (i := 3) (N := some 66) #[true, true, true, true, false] rfl rfl (one_of HT_.out (by kernel_rfl)) (by decide) (fun K hK => ?_)
    refine goes_ Try.func16 (by kernel_rfl) rfl #[.agg #[.slice D6A l2.length D6c, .slice D6B l3.length D6d], .agg #[.slice DY1A l2.length DY1c, .slice DY1B l3.length DY1d]] (by rfl) rfl rfl (by (try simp only [List.map_toArray, List.map_cons, List.map_nil]); first | done | rfl) ?_
    with_reducible refine (laws_eqDfa.calls ke2 _ _ l2 _ _ l3 _ _ l2 _ _ l3 true _ ?s1 D6s.out ?s2 D6t.out ?s3 DY1s.out ?s4 DY1t.out HKE2.out).mono ?_
    (case s1 => exact D6.out.c0)
    (case s2 => exact D6.out.c1)
    (case s3 => exact DY1.out.c0)
    (case s4 => exact DY1.out.c1)
    rintro e w15 ⟨rfl, hb⟩
    refine ⟨_, rfl, ?_⟩
    have HB__n := Aside0.mk (below_then HB_.out HB_.out.size hb)
    have BA0_n := Aside0.mk ((hb.block _ (blk_lt BA0.out)).trans BA0.out)
    have BA1_n := Aside0.mk ((hb.block _ (blk_lt BA1.out)).trans BA1.out)
    have BDW_n := Aside0.mk ((hb.block _ (blk_lt BDW.out)).trans BDW.out)
    have BD4_n := Aside0.mk ((hb.block _ (blk_lt BD4.out)).trans BD4.out)
    have BD6_n := Aside0.mk ((hb.block _ (blk_lt BD6.out)).trans BD6.out)
    have BDG_n := Aside0.mk ((hb.block _ (blk_lt BDG.out)).trans BDG.out)
    have DW_n := Aside0.mk (DW.out.below hb)
    have D4_n := Aside0.mk (D4.out.below hb)
    have D6_n := Aside0.mk (D6.out.below hb)
    have DG_n := Aside0.mk (DG.out.below hb)
    have DY1_n := Aside0.mk (DY1.out.below hb)
    have DWh := Aside0.mk (Nat.le_trans DWh.out hb.size)
    have D4h := Aside0.mk (Nat.le_trans D4h.out hb.size)
    have D6h := Aside0.mk (Nat.le_trans D6h.out hb.size)
    have DGh := Aside0.mk (Nat.le_trans DGh.out hb.size)
    have DY1h := Aside0.mk (Nat.le_trans DY1h.out hb.size)
    clear HB_ BA0 BA1 BDW BD4 BD6 BDG DW D4 D6 DG DY1
    have HB_ := HB__n
    have BA0 := BA0_n
    have BA1 := BA1_n
    have BDW := BDW_n
    have BD4 := BD4_n
    have BD6 := BD6_n
    have BDG := BDG_n
    have DW := DW_n
    have D4 := D4_n
    have D6 := D6_n
    have DG := DG_n
    have DY1 := DY1_n
    clear HB__n BA0_n BA1_n BDW_n BD4_n BD6_n BDG_n DW_n D4_n D6_n DG_n DY1_n
    clear hb
    refine hK.out _ _ (⟨(blk_cell BD6.out 0).trans rfl, (blk_cell BD6.out 1).trans rfl, (blk_cell BA1.out 0).trans rfl, (blk_cell BA1.out 1).trans rfl⟩) (fun hHeld => ?_)
    clear hK K
    refine norm_ (a' := ?_) ?_ ?_
    rotate_left
    · show Act.put _ (some 66) _ = _
      simp only [Act.put, List.setIfInBounds_toArray, List.set_cons_zero, List.set_cons_succ, i64_w, i32_w]
      rfl
    refine pure_ (i := 4) (N := some 67) (v := ?_) (a' := ?_) #[true, true, true, true, true] rfl rfl (any_of HT_.out (by kernel_rfl)) (fun _ _ _ h => h) (Or.inl ⟨by rfl, ?_⟩) ?_ ?_
    rotate_left
    · intro w'
      go_simp
      with_reducible rfl
    rotate_left
    · simp only [Act.put, List.setIfInBounds_toArray, List.set_cons_zero, List.set_cons_succ, i64_w, i32_w]
      rfl
    refine done_ (done_of HT_.out (by kernel_rfl)) ?_
    clear HT_ HW_ hHeld
    clear DY1 DY1s DY1t DY1h
    have hz_BA0_0 : World.cell? w15 ⟨w.heap.size, 0, none⟩ = some (.slice A0 l0.length c0) := (blk_cell BA0.out 0).trans rfl
    have hz_BA0_1 : World.cell? w15 ⟨w.heap.size, 1, none⟩ = some (.slice A1 l1.length c1) := (blk_cell BA0.out 1).trans rfl
    have hz_BA1_0 : World.cell? w15 ⟨w.heap.size + 1, 0, none⟩ = some (.slice A2 l2.length c2) := (blk_cell BA1.out 0).trans rfl
    have hz_BA1_1 : World.cell? w15 ⟨w.heap.size + 1, 1, none⟩ = some (.slice A3 l3.length c3) := (blk_cell BA1.out 1).trans rfl
    have hz_BDW_0 : World.cell? w15 ⟨g_DW, 0, none⟩ = some (.slice DWA ma.length DWc) := (blk_cell BDW.out 0).trans rfl
    have hz_BDW_1 : World.cell? w15 ⟨g_DW, 1, none⟩ = some (.slice DWB mn.length DWd) := (blk_cell BDW.out 1).trans rfl
    have hz_BD4_0 : World.cell? w15 ⟨w6.heap.size, 0, none⟩ = some (.slice D4A l0.length D4c) := (blk_cell BD4.out 0).trans rfl
    have hz_BD4_1 : World.cell? w15 ⟨w6.heap.size, 1, none⟩ = some (.slice D4B l1.length D4d) := (blk_cell BD4.out 1).trans rfl
    have hz_BD6_0 : World.cell? w15 ⟨w7.heap.size, 0, none⟩ = some (.slice D6A l2.length D6c) := (blk_cell BD6.out 0).trans rfl
    have hz_BD6_1 : World.cell? w15 ⟨w7.heap.size, 1, none⟩ = some (.slice D6B l3.length D6d) := (blk_cell BD6.out 1).trans rfl
    have hz_BDG_0 : World.cell? w15 ⟨w8.heap.size, 0, none⟩ = some (.slice DGA ma.length DGc) := (blk_cell BDG.out 0).trans rfl
    have hz_BDG_1 : World.cell? w15 ⟨w8.heap.size, 1, none⟩ = some (.slice DGB mn.length DGd) := (blk_cell BDG.out 1).trans rfl
    go_wp2_with (first
      | ((with_reducible refine gate_callee (f := 17) rfl ?_); refine goesL_ (some 70) rfl rfl Try.func17 (by kernel_rfl) rfl #[.agg #[.slice D4A l0.length D4c, .slice D4B l1.length D4d], .int .i64 1] rfl (by (try simp only [List.map_toArray, List.map_cons, List.map_nil]); first | done | rfl) ?_; (with_reducible refine (markDv (w0 := w) 1 HB_.out D4.out ?s1 ?s2 ?s3 ?s4).mono ?_); (case s1 => exact by have := HS0.out; omega); (case s2 => exact by have := HS0.out; omega); (case s3 => exact fun x hx => by have := HS0.out.2.2 x hx; omega); (case s4 => exact by omega); rintro e w16 ⟨rfl, hd, hb, hk⟩; (try clear hz_BA0_0); (try clear hz_BA0_1); (try clear hz_BA1_0); (try clear hz_BA1_1); (try clear hz_BDW_0); (try clear hz_BDW_1); (try clear hz_BD4_0); (try clear hz_BD4_1); (try clear hz_BD6_0); (try clear hz_BD6_1); (try clear hz_BDG_0); (try clear hz_BDG_1); have HB__n := Aside0.mk hb; have D4_n := Aside0.mk hd; have BA0_n := Aside0.mk (blk_kept BA0.out hk (by have := p_BA0_D4.out; omega)); have BA1_n := Aside0.mk (blk_kept BA1.out hk (by have := p_BA1_D4.out; omega)); have BDW_n := Aside0.mk (blk_kept BDW.out hk (by have := p_BDW_D4.out; omega)); have BD4_n := Aside0.mk (blk_kept BD4.out hk (by have := p_D4_BD4.out; omega)); have BD6_n := Aside0.mk (blk_kept BD6.out hk (by have := p_D4_BD6.out; omega)); have BDG_n := Aside0.mk (blk_kept BDG.out hk (by have := p_D4_BDG.out; omega)); have DW_n := Aside0.mk (DW.out.kept hk (fun k h1 h2 => by have := p_DW_D4.out; omega)); have D6_n := Aside0.mk (D6.out.kept hk (fun k h1 h2 => by have := p_D4_D6.out; omega)); have DG_n := Aside0.mk (DG.out.kept hk (fun k h1 h2 => by have := p_D4_DG.out; omega)); have DWh := Aside0.mk (Nat.le_trans DWh.out hk.1); have D4h := Aside0.mk (Nat.le_trans D4h.out hk.1); have D6h := Aside0.mk (Nat.le_trans D6h.out hk.1); have DGh := Aside0.mk (Nat.le_trans DGh.out hk.1); clear HB_ BA0 BA1 BDW BD4 BD6 BDG DW D4 D6 DG; have HB_ := HB__n; have BA0 := BA0_n; have BA1 := BA1_n; have BDW := BDW_n; have BD4 := BD4_n; have BD6 := BD6_n; have BDG := BDG_n; have DW := DW_n; have D4 := D4_n; have D6 := D6_n; have DG := DG_n; clear HB__n BA0_n BA1_n BDW_n BD4_n BD6_n BDG_n DW_n D4_n D6_n DG_n; clear hd hb hk; have hz_BA0_0 : World.cell? w16 ⟨w.heap.size, 0, none⟩ = some (.slice A0 l0.length c0) := (blk_cell BA0.out 0).trans rfl; have hz_BA0_1 : World.cell? w16 ⟨w.heap.size, 1, none⟩ = some (.slice A1 l1.length c1) := (blk_cell BA0.out 1).trans rfl; have hz_BA1_0 : World.cell? w16 ⟨w.heap.size + 1, 0, none⟩ = some (.slice A2 l2.length c2) := (blk_cell BA1.out 0).trans rfl; have hz_BA1_1 : World.cell? w16 ⟨w.heap.size + 1, 1, none⟩ = some (.slice A3 l3.length c3) := (blk_cell BA1.out 1).trans rfl; have hz_BDW_0 : World.cell? w16 ⟨g_DW, 0, none⟩ = some (.slice DWA ma.length DWc) := (blk_cell BDW.out 0).trans rfl; have hz_BDW_1 : World.cell? w16 ⟨g_DW, 1, none⟩ = some (.slice DWB mn.length DWd) := (blk_cell BDW.out 1).trans rfl; have hz_BD4_0 : World.cell? w16 ⟨w6.heap.size, 0, none⟩ = some (.slice D4A l0.length D4c) := (blk_cell BD4.out 0).trans rfl; have hz_BD4_1 : World.cell? w16 ⟨w6.heap.size, 1, none⟩ = some (.slice D4B l1.length D4d) := (blk_cell BD4.out 1).trans rfl; have hz_BD6_0 : World.cell? w16 ⟨w7.heap.size, 0, none⟩ = some (.slice D6A l2.length D6c) := (blk_cell BD6.out 0).trans rfl; have hz_BD6_1 : World.cell? w16 ⟨w7.heap.size, 1, none⟩ = some (.slice D6B l3.length D6d) := (blk_cell BD6.out 1).trans rfl; have hz_BDG_0 : World.cell? w16 ⟨w8.heap.size, 0, none⟩ = some (.slice DGA ma.length DGc) := (blk_cell BDG.out 0).trans rfl; have hz_BDG_1 : World.cell? w16 ⟨w8.heap.size, 1, none⟩ = some (.slice DGB mn.length DGd) := (blk_cell BDG.out 1).trans rfl; refine ⟨_, rfl, ?_⟩)
      | ((with_reducible refine gate_callee (f := 17) rfl ?_); refine goesL_ (some 73) rfl rfl Try.func17 (by kernel_rfl) rfl #[.agg #[.slice D6A l2.length D6c, .slice D6B l3.length D6d], .int .i64 (mkK l1 (1 + (l0.length : Int)))] rfl (by (try simp only [List.map_toArray, List.map_cons, List.map_nil]); first | done | rfl) ?_; (with_reducible refine (markDv (w0 := w) (mkK l1 (1 + (l0.length : Int))) HB_.out D6.out ?s1 ?s2 ?s3 ?s4).mono ?_); (case s1 => exact by have := HS1.out; omega); (case s2 => exact by have := HS1.out; omega); (case s3 => exact fun x hx => by have := HS1.out.2.2 x hx; omega); (case s4 => exact by have := HMK0.out; omega); rintro e w17 ⟨rfl, hd, hb, hk⟩; (try clear hz_BA0_0); (try clear hz_BA0_1); (try clear hz_BA1_0); (try clear hz_BA1_1); (try clear hz_BDW_0); (try clear hz_BDW_1); (try clear hz_BD4_0); (try clear hz_BD4_1); (try clear hz_BD6_0); (try clear hz_BD6_1); (try clear hz_BDG_0); (try clear hz_BDG_1); have HB__n := Aside0.mk hb; have D6_n := Aside0.mk hd; have BA0_n := Aside0.mk (blk_kept BA0.out hk (by have := p_BA0_D6.out; omega)); have BA1_n := Aside0.mk (blk_kept BA1.out hk (by have := p_BA1_D6.out; omega)); have BDW_n := Aside0.mk (blk_kept BDW.out hk (by have := p_BDW_D6.out; omega)); have BD4_n := Aside0.mk (blk_kept BD4.out hk (by have := p_BD4_D6.out; omega)); have BD6_n := Aside0.mk (blk_kept BD6.out hk (by have := p_D6_BD6.out; omega)); have BDG_n := Aside0.mk (blk_kept BDG.out hk (by have := p_D6_BDG.out; omega)); have DW_n := Aside0.mk (DW.out.kept hk (fun k h1 h2 => by have := p_DW_D6.out; omega)); have D4_n := Aside0.mk (D4.out.kept hk (fun k h1 h2 => by have := p_D4_D6.out; omega)); have DG_n := Aside0.mk (DG.out.kept hk (fun k h1 h2 => by have := p_D6_DG.out; omega)); have DWh := Aside0.mk (Nat.le_trans DWh.out hk.1); have D4h := Aside0.mk (Nat.le_trans D4h.out hk.1); have D6h := Aside0.mk (Nat.le_trans D6h.out hk.1); have DGh := Aside0.mk (Nat.le_trans DGh.out hk.1); clear HB_ BA0 BA1 BDW BD4 BD6 BDG DW D4 D6 DG; have HB_ := HB__n; have BA0 := BA0_n; have BA1 := BA1_n; have BDW := BDW_n; have BD4 := BD4_n; have BD6 := BD6_n; have BDG := BDG_n; have DW := DW_n; have D4 := D4_n; have D6 := D6_n; have DG := DG_n; clear HB__n BA0_n BA1_n BDW_n BD4_n BD6_n BDG_n DW_n D4_n D6_n DG_n; clear hd hb hk; have hz_BA0_0 : World.cell? w17 ⟨w.heap.size, 0, none⟩ = some (.slice A0 l0.length c0) := (blk_cell BA0.out 0).trans rfl; have hz_BA0_1 : World.cell? w17 ⟨w.heap.size, 1, none⟩ = some (.slice A1 l1.length c1) := (blk_cell BA0.out 1).trans rfl; have hz_BA1_0 : World.cell? w17 ⟨w.heap.size + 1, 0, none⟩ = some (.slice A2 l2.length c2) := (blk_cell BA1.out 0).trans rfl; have hz_BA1_1 : World.cell? w17 ⟨w.heap.size + 1, 1, none⟩ = some (.slice A3 l3.length c3) := (blk_cell BA1.out 1).trans rfl; have hz_BDW_0 : World.cell? w17 ⟨g_DW, 0, none⟩ = some (.slice DWA ma.length DWc) := (blk_cell BDW.out 0).trans rfl; have hz_BDW_1 : World.cell? w17 ⟨g_DW, 1, none⟩ = some (.slice DWB mn.length DWd) := (blk_cell BDW.out 1).trans rfl; have hz_BD4_0 : World.cell? w17 ⟨w6.heap.size, 0, none⟩ = some (.slice D4A l0.length D4c) := (blk_cell BD4.out 0).trans rfl; have hz_BD4_1 : World.cell? w17 ⟨w6.heap.size, 1, none⟩ = some (.slice D4B l1.length D4d) := (blk_cell BD4.out 1).trans rfl; have hz_BD6_0 : World.cell? w17 ⟨w7.heap.size, 0, none⟩ = some (.slice D6A l2.length D6c) := (blk_cell BD6.out 0).trans rfl; have hz_BD6_1 : World.cell? w17 ⟨w7.heap.size, 1, none⟩ = some (.slice D6B l3.length D6d) := (blk_cell BD6.out 1).trans rfl; have hz_BDG_0 : World.cell? w17 ⟨w8.heap.size, 0, none⟩ = some (.slice DGA ma.length DGc) := (blk_cell BDG.out 0).trans rfl; have hz_BDG_1 : World.cell? w17 ⟨w8.heap.size, 1, none⟩ = some (.slice DGB mn.length DGd) := (blk_cell BDG.out 1).trans rfl; refine ⟨_, rfl, ?_⟩)
      | (go_at_call 16; (with_reducible refine (laws_eqDfa.calls keq _ _ ma _ _ mn _ _ ma _ _ mn true _ ?s1 DGs.out ?s2 DGt.out ?s3 DWs.out ?s4 DWt.out HKEq.out).mono ?_); (case s1 => exact DG.out.c0); (case s2 => exact DG.out.c1); (case s3 => exact DW.out.c0); (case s4 => exact DW.out.c1); rintro e w18 ⟨rfl, hb⟩; (try clear hz_BA0_0); (try clear hz_BA0_1); (try clear hz_BA1_0); (try clear hz_BA1_1); (try clear hz_BDW_0); (try clear hz_BDW_1); (try clear hz_BD4_0); (try clear hz_BD4_1); (try clear hz_BD6_0); (try clear hz_BD6_1); (try clear hz_BDG_0); (try clear hz_BDG_1); have HB__n := Aside0.mk (below_then HB_.out HB_.out.size hb); have BA0_n := Aside0.mk ((hb.block _ (blk_lt BA0.out)).trans BA0.out); have BA1_n := Aside0.mk ((hb.block _ (blk_lt BA1.out)).trans BA1.out); have BDW_n := Aside0.mk ((hb.block _ (blk_lt BDW.out)).trans BDW.out); have BD4_n := Aside0.mk ((hb.block _ (blk_lt BD4.out)).trans BD4.out); have BD6_n := Aside0.mk ((hb.block _ (blk_lt BD6.out)).trans BD6.out); have BDG_n := Aside0.mk ((hb.block _ (blk_lt BDG.out)).trans BDG.out); have DW_n := Aside0.mk (DW.out.below hb); have D4_n := Aside0.mk (D4.out.below hb); have D6_n := Aside0.mk (D6.out.below hb); have DG_n := Aside0.mk (DG.out.below hb); have DWh := Aside0.mk (Nat.le_trans DWh.out hb.size); have D4h := Aside0.mk (Nat.le_trans D4h.out hb.size); have D6h := Aside0.mk (Nat.le_trans D6h.out hb.size); have DGh := Aside0.mk (Nat.le_trans DGh.out hb.size); clear HB_ BA0 BA1 BDW BD4 BD6 BDG DW D4 D6 DG; have HB_ := HB__n; have BA0 := BA0_n; have BA1 := BA1_n; have BDW := BDW_n; have BD4 := BD4_n; have BD6 := BD6_n; have BDG := BDG_n; have DW := DW_n; have D4 := D4_n; have D6 := D6_n; have DG := DG_n; clear HB__n BA0_n BA1_n BDW_n BD4_n BD6_n BDG_n DW_n D4_n D6_n DG_n; clear hb; have hz_BA0_0 : World.cell? w18 ⟨w.heap.size, 0, none⟩ = some (.slice A0 l0.length c0) := (blk_cell BA0.out 0).trans rfl; have hz_BA0_1 : World.cell? w18 ⟨w.heap.size, 1, none⟩ = some (.slice A1 l1.length c1) := (blk_cell BA0.out 1).trans rfl; have hz_BA1_0 : World.cell? w18 ⟨w.heap.size + 1, 0, none⟩ = some (.slice A2 l2.length c2) := (blk_cell BA1.out 0).trans rfl; have hz_BA1_1 : World.cell? w18 ⟨w.heap.size + 1, 1, none⟩ = some (.slice A3 l3.length c3) := (blk_cell BA1.out 1).trans rfl; have hz_BDW_0 : World.cell? w18 ⟨g_DW, 0, none⟩ = some (.slice DWA ma.length DWc) := (blk_cell BDW.out 0).trans rfl; have hz_BDW_1 : World.cell? w18 ⟨g_DW, 1, none⟩ = some (.slice DWB mn.length DWd) := (blk_cell BDW.out 1).trans rfl; have hz_BD4_0 : World.cell? w18 ⟨w6.heap.size, 0, none⟩ = some (.slice D4A l0.length D4c) := (blk_cell BD4.out 0).trans rfl; have hz_BD4_1 : World.cell? w18 ⟨w6.heap.size, 1, none⟩ = some (.slice D4B l1.length D4d) := (blk_cell BD4.out 1).trans rfl; have hz_BD6_0 : World.cell? w18 ⟨w7.heap.size, 0, none⟩ = some (.slice D6A l2.length D6c) := (blk_cell BD6.out 0).trans rfl; have hz_BD6_1 : World.cell? w18 ⟨w7.heap.size, 1, none⟩ = some (.slice D6B l3.length D6d) := (blk_cell BD6.out 1).trans rfl; have hz_BDG_0 : World.cell? w18 ⟨w8.heap.size, 0, none⟩ = some (.slice DGA ma.length DGc) := (blk_cell BDG.out 0).trans rfl; have hz_BDG_1 : World.cell? w18 ⟨w8.heap.size, 1, none⟩ = some (.slice DGB mn.length DGd) := (blk_cell BDG.out 1).trans rfl)
      | ((with_reducible refine gate_callee (f := 17) rfl ?_); refine goesL_ (some 89) rfl rfl Try.func17 (by kernel_rfl) rfl #[.agg #[.slice DGA ma.length DGc, .slice DGB mn.length DGd], .int .i64 1] rfl (by (try simp only [List.map_toArray, List.map_cons, List.map_nil]); first | done | rfl) ?_; (with_reducible refine (markDv (w0 := w) 1 HB_.out DG.out ?s1 ?s2 ?s3 ?s4).mono ?_); (case s1 => exact by have := HM.out; omega); (case s2 => exact by have := HM.out; omega); (case s3 => exact fun x hx => by have := HM.out.2.2 x hx; omega); (case s4 => exact by omega); rintro e w19 ⟨rfl, hd, hb, hk⟩; (try clear hz_BA0_0); (try clear hz_BA0_1); (try clear hz_BA1_0); (try clear hz_BA1_1); (try clear hz_BDW_0); (try clear hz_BDW_1); (try clear hz_BD4_0); (try clear hz_BD4_1); (try clear hz_BD6_0); (try clear hz_BD6_1); (try clear hz_BDG_0); (try clear hz_BDG_1); have HB__n := Aside0.mk hb; have DG_n := Aside0.mk hd; have BA0_n := Aside0.mk (blk_kept BA0.out hk (by have := p_BA0_DG.out; omega)); have BA1_n := Aside0.mk (blk_kept BA1.out hk (by have := p_BA1_DG.out; omega)); have BDW_n := Aside0.mk (blk_kept BDW.out hk (by have := p_BDW_DG.out; omega)); have BD4_n := Aside0.mk (blk_kept BD4.out hk (by have := p_BD4_DG.out; omega)); have BD6_n := Aside0.mk (blk_kept BD6.out hk (by have := p_BD6_DG.out; omega)); have BDG_n := Aside0.mk (blk_kept BDG.out hk (by have := p_DG_BDG.out; omega)); have DW_n := Aside0.mk (DW.out.kept hk (fun k h1 h2 => by have := p_DW_DG.out; omega)); have D4_n := Aside0.mk (D4.out.kept hk (fun k h1 h2 => by have := p_D4_DG.out; omega)); have D6_n := Aside0.mk (D6.out.kept hk (fun k h1 h2 => by have := p_D6_DG.out; omega)); have DWh := Aside0.mk (Nat.le_trans DWh.out hk.1); have D4h := Aside0.mk (Nat.le_trans D4h.out hk.1); have D6h := Aside0.mk (Nat.le_trans D6h.out hk.1); have DGh := Aside0.mk (Nat.le_trans DGh.out hk.1); clear HB_ BA0 BA1 BDW BD4 BD6 BDG DW D4 D6 DG; have HB_ := HB__n; have BA0 := BA0_n; have BA1 := BA1_n; have BDW := BDW_n; have BD4 := BD4_n; have BD6 := BD6_n; have BDG := BDG_n; have DW := DW_n; have D4 := D4_n; have D6 := D6_n; have DG := DG_n; clear HB__n BA0_n BA1_n BDW_n BD4_n BD6_n BDG_n DW_n D4_n D6_n DG_n; clear hd hb hk; have hz_BA0_0 : World.cell? w19 ⟨w.heap.size, 0, none⟩ = some (.slice A0 l0.length c0) := (blk_cell BA0.out 0).trans rfl; have hz_BA0_1 : World.cell? w19 ⟨w.heap.size, 1, none⟩ = some (.slice A1 l1.length c1) := (blk_cell BA0.out 1).trans rfl; have hz_BA1_0 : World.cell? w19 ⟨w.heap.size + 1, 0, none⟩ = some (.slice A2 l2.length c2) := (blk_cell BA1.out 0).trans rfl; have hz_BA1_1 : World.cell? w19 ⟨w.heap.size + 1, 1, none⟩ = some (.slice A3 l3.length c3) := (blk_cell BA1.out 1).trans rfl; have hz_BDW_0 : World.cell? w19 ⟨g_DW, 0, none⟩ = some (.slice DWA ma.length DWc) := (blk_cell BDW.out 0).trans rfl; have hz_BDW_1 : World.cell? w19 ⟨g_DW, 1, none⟩ = some (.slice DWB mn.length DWd) := (blk_cell BDW.out 1).trans rfl; have hz_BD4_0 : World.cell? w19 ⟨w6.heap.size, 0, none⟩ = some (.slice D4A l0.length D4c) := (blk_cell BD4.out 0).trans rfl; have hz_BD4_1 : World.cell? w19 ⟨w6.heap.size, 1, none⟩ = some (.slice D4B l1.length D4d) := (blk_cell BD4.out 1).trans rfl; have hz_BD6_0 : World.cell? w19 ⟨w7.heap.size, 0, none⟩ = some (.slice D6A l2.length D6c) := (blk_cell BD6.out 0).trans rfl; have hz_BD6_1 : World.cell? w19 ⟨w7.heap.size, 1, none⟩ = some (.slice D6B l3.length D6d) := (blk_cell BD6.out 1).trans rfl; have hz_BDG_0 : World.cell? w19 ⟨w8.heap.size, 0, none⟩ = some (.slice DGA ma.length DGc) := (blk_cell BDG.out 0).trans rfl; have hz_BDG_1 : World.cell? w19 ⟨w8.heap.size, 1, none⟩ = some (.slice DGB mn.length DGd) := (blk_cell BDG.out 1).trans rfl; refine ⟨_, rfl, ?_⟩)
      | ((with_reducible refine gate_callee (f := 18) rfl ?_); refine goesL_ (some 92) rfl rfl Try.func18 (by kernel_rfl) rfl #[.agg #[.slice DGA ma.length DGc, .slice DGB mn.length DGd], .int .i64 1] rfl (by (try simp only [List.map_toArray, List.map_cons, List.map_nil]); first | done | rfl) ?_; (with_reducible refine (heldDv DG.out ?s1 ?s2 ?s3).mono ?_); (case s1 => exact by have := HM.out; omega); (case s2 => exact by have := HM.out; omega); (case s3 => exact fun x hx => by have := HM.out.2.2 x hx; omega); rintro e w20 ⟨rfl, hb⟩; (try clear hz_BA0_0); (try clear hz_BA0_1); (try clear hz_BA1_0); (try clear hz_BA1_1); (try clear hz_BDW_0); (try clear hz_BDW_1); (try clear hz_BD4_0); (try clear hz_BD4_1); (try clear hz_BD6_0); (try clear hz_BD6_1); (try clear hz_BDG_0); (try clear hz_BDG_1); have HB__n := Aside0.mk (below_then HB_.out HB_.out.size hb); have BA0_n := Aside0.mk ((hb.block _ (blk_lt BA0.out)).trans BA0.out); have BA1_n := Aside0.mk ((hb.block _ (blk_lt BA1.out)).trans BA1.out); have BDW_n := Aside0.mk ((hb.block _ (blk_lt BDW.out)).trans BDW.out); have BD4_n := Aside0.mk ((hb.block _ (blk_lt BD4.out)).trans BD4.out); have BD6_n := Aside0.mk ((hb.block _ (blk_lt BD6.out)).trans BD6.out); have BDG_n := Aside0.mk ((hb.block _ (blk_lt BDG.out)).trans BDG.out); have DW_n := Aside0.mk (DW.out.below hb); have D4_n := Aside0.mk (D4.out.below hb); have D6_n := Aside0.mk (D6.out.below hb); have DG_n := Aside0.mk (DG.out.below hb); have DWh := Aside0.mk (Nat.le_trans DWh.out hb.size); have D4h := Aside0.mk (Nat.le_trans D4h.out hb.size); have D6h := Aside0.mk (Nat.le_trans D6h.out hb.size); have DGh := Aside0.mk (Nat.le_trans DGh.out hb.size); clear HB_ BA0 BA1 BDW BD4 BD6 BDG DW D4 D6 DG; have HB_ := HB__n; have BA0 := BA0_n; have BA1 := BA1_n; have BDW := BDW_n; have BD4 := BD4_n; have BD6 := BD6_n; have BDG := BDG_n; have DW := DW_n; have D4 := D4_n; have D6 := D6_n; have DG := DG_n; clear HB__n BA0_n BA1_n BDW_n BD4_n BD6_n BDG_n DW_n D4_n D6_n DG_n; clear hb; have hz_BA0_0 : World.cell? w20 ⟨w.heap.size, 0, none⟩ = some (.slice A0 l0.length c0) := (blk_cell BA0.out 0).trans rfl; have hz_BA0_1 : World.cell? w20 ⟨w.heap.size, 1, none⟩ = some (.slice A1 l1.length c1) := (blk_cell BA0.out 1).trans rfl; have hz_BA1_0 : World.cell? w20 ⟨w.heap.size + 1, 0, none⟩ = some (.slice A2 l2.length c2) := (blk_cell BA1.out 0).trans rfl; have hz_BA1_1 : World.cell? w20 ⟨w.heap.size + 1, 1, none⟩ = some (.slice A3 l3.length c3) := (blk_cell BA1.out 1).trans rfl; have hz_BDW_0 : World.cell? w20 ⟨g_DW, 0, none⟩ = some (.slice DWA ma.length DWc) := (blk_cell BDW.out 0).trans rfl; have hz_BDW_1 : World.cell? w20 ⟨g_DW, 1, none⟩ = some (.slice DWB mn.length DWd) := (blk_cell BDW.out 1).trans rfl; have hz_BD4_0 : World.cell? w20 ⟨w6.heap.size, 0, none⟩ = some (.slice D4A l0.length D4c) := (blk_cell BD4.out 0).trans rfl; have hz_BD4_1 : World.cell? w20 ⟨w6.heap.size, 1, none⟩ = some (.slice D4B l1.length D4d) := (blk_cell BD4.out 1).trans rfl; have hz_BD6_0 : World.cell? w20 ⟨w7.heap.size, 0, none⟩ = some (.slice D6A l2.length D6c) := (blk_cell BD6.out 0).trans rfl; have hz_BD6_1 : World.cell? w20 ⟨w7.heap.size, 1, none⟩ = some (.slice D6B l3.length D6d) := (blk_cell BD6.out 1).trans rfl; have hz_BDG_0 : World.cell? w20 ⟨w8.heap.size, 0, none⟩ = some (.slice DGA ma.length DGc) := (blk_cell BDG.out 0).trans rfl; have hz_BDG_1 : World.cell? w20 ⟨w8.heap.size, 1, none⟩ = some (.slice DGB mn.length DGd) := (blk_cell BDG.out 1).trans rfl; refine ⟨_, rfl, ?_⟩))
    refine start_ (n := 12) (S := (fun w' => w'.cell? ⟨w.heap.size, 0, none⟩ = some (.slice A0 l0.length c0) ∧ w'.cell? ⟨w.heap.size, 1, none⟩ = some (.slice A1 l1.length c1) ∧ w'.cell? ⟨w.heap.size + 1, 0, none⟩ = some (.slice A2 l2.length c2) ∧ w'.cell? ⟨w.heap.size + 1, 1, none⟩ = some (.slice A3 l3.length c3))) (ds := [10]) #[false, false, false, false, false, false, false, false, false, false, false, false] (by kernel_rfl) rfl rfl (⟨(blk_cell BA0.out 0).trans rfl, (blk_cell BA0.out 1).trans rfl, (blk_cell BA1.out 0).trans rfl, (blk_cell BA1.out 1).trans rfl⟩) (fun hHeld => ?_); refine with_tabW tab31Pd bits31Pd (fun HT_ HW_ => ?_)
    (try clear hz_BA0_0)
    (try clear hz_BA0_1)
    (try clear hz_BA1_0)
    (try clear hz_BA1_1)
    (try clear hz_BDW_0)
    (try clear hz_BDW_1)
    (try clear hz_BD4_0)
    (try clear hz_BD4_1)
    (try clear hz_BD6_0)
    (try clear hz_BD6_1)
    (try clear hz_BDG_0)
    (try clear hz_BDG_1)
    have hb := below_drew1 (Below.refl w20.heap.size w20)
    have HB__n := Aside0.mk (below_then HB_.out HB_.out.size hb)
    have BA0_n := Aside0.mk ((hb.block _ (blk_lt BA0.out)).trans BA0.out)
    have BA1_n := Aside0.mk ((hb.block _ (blk_lt BA1.out)).trans BA1.out)
    have BDW_n := Aside0.mk ((hb.block _ (blk_lt BDW.out)).trans BDW.out)
    have BD4_n := Aside0.mk ((hb.block _ (blk_lt BD4.out)).trans BD4.out)
    have BD6_n := Aside0.mk ((hb.block _ (blk_lt BD6.out)).trans BD6.out)
    have BDG_n := Aside0.mk ((hb.block _ (blk_lt BDG.out)).trans BDG.out)
    have DW_n := Aside0.mk (DW.out.below hb)
    have D4_n := Aside0.mk (D4.out.below hb)
    have D6_n := Aside0.mk (D6.out.below hb)
    have DG_n := Aside0.mk (DG.out.below hb)
    have DWh := Aside0.mk (Nat.le_trans DWh.out hb.size)
    have D4h := Aside0.mk (Nat.le_trans D4h.out hb.size)
    have D6h := Aside0.mk (Nat.le_trans D6h.out hb.size)
    have DGh := Aside0.mk (Nat.le_trans DGh.out hb.size)
    clear HB_ BA0 BA1 BDW BD4 BD6 BDG DW D4 D6 DG
    have HB_ := HB__n
    have BA0 := BA0_n
    have BA1 := BA1_n
    have BDW := BDW_n
    have BD4 := BD4_n
    have BD6 := BD6_n
    have BDG := BDG_n
    have DW := DW_n
    have D4 := D4_n
    have D6 := D6_n
    have DG := DG_n
    clear HB__n BA0_n BA1_n BDW_n BD4_n BD6_n BDG_n DW_n D4_n D6_n DG_n
    clear hb
    generalize w20.drew = w21 at HB_ BA0 BA1 BDW BD4 BD6 BDG DW D4 D6 DG DWh D4h D6h DGh hHeld ⊢
    refine pure_ (i := 4) (N := some 103) (v := ?_) (a' := ?_) #[false, false, false, false, true, false, false, false, false, false, false, false] rfl rfl (any_of HT_.out (by kernel_rfl)) (fun _ _ _ h => h) (Or.inl ⟨by rfl, ?_⟩) ?_ ?_
    rotate_left
    · intro w'
      go_simp
      with_reducible rfl
    rotate_left
    · simp only [Act.put, List.setIfInBounds_toArray, List.set_cons_zero, List.set_cons_succ, i64_w, i32_w]
      rfl
    refine take_ (i := 0) (N := some 99) (v := ?_) (a' := ?_) #[true, false, false, false, true, false, false, false, false, false, false, false] rfl rfl (take_ofW HT_.out HW_.out (by kernel_rfl)) (fun _ _ _ h => h) (Or.inl ⟨by rfl, ?_⟩) hHeld ?_ ?_
    rotate_left
    · rintro w' ⟨t0, t1, t2, t3⟩
      go_simp
      with_reducible rfl
    rotate_left
    · simp only [Act.put, List.setIfInBounds_toArray, List.set_cons_zero, List.set_cons_succ, i64_w, i32_w]
      rfl
    refine take_ (i := 2) (N := some 101) (v := ?_) (a' := ?_) #[true, false, true, false, true, false, false, false, false, false, false, false] rfl rfl (take_ofW HT_.out HW_.out (by kernel_rfl)) (fun _ _ _ h => h) (Or.inl ⟨by rfl, ?_⟩) hHeld ?_ ?_
    rotate_left
    · rintro w' ⟨t0, t1, t2, t3⟩
      go_simp
      with_reducible rfl
    rotate_left
    · simp only [Act.put, List.setIfInBounds_toArray, List.set_cons_zero, List.set_cons_succ, i64_w, i32_w]
      rfl
    refine join_ (σ := Value × Value × Value × Value × Nat) 2 #[true, true, true, true, true, true, true, true, true, true, false, false] (fun s_ => [(100, s_.1), (102, s_.2.1), (104, .tuple #[.agg #[s_.2.2.1, s_.2.2.2.1], .bool ok]), (17, .pointer (some ⟨s_.2.2.2.2, 0, none⟩)), (98, .tuple #[.agg #[s_.2.2.1, s_.2.2.2.1], .bool ok]), (105, .agg #[s_.2.2.1, s_.2.2.2.1]), (106, .bool ok)]) (fun s_ w' => (fun w' => w'.cell? ⟨w.heap.size, 0, none⟩ = some (.slice A0 l0.length c0) ∧ w'.cell? ⟨w.heap.size, 1, none⟩ = some (.slice A1 l1.length c1) ∧ w'.cell? ⟨w.heap.size + 1, 0, none⟩ = some (.slice A2 l2.length c2) ∧ w'.cell? ⟨w.heap.size + 1, 1, none⟩ = some (.slice A3 l3.length c3)) w' ∧ Below w21.heap.size w21 w' ∧ (∃ lo hi : Nat, Dv w.heap.size w' lo hi s_.2.2.1 s_.2.2.2.1 ma mn ∧ w21.heap.size ≤ lo ∧ hi ≤ w'.heap.size) ∧ w'.heap[s_.2.2.2.2]? = some (.cells #[.slice none 0 0, .slice none 0 0] 27 (0, 0)) ∧ w21.heap.size ≤ s_.2.2.2.2) ?_ ?_
    rotate_left
    · intro hCont
      have HBw := Aside0.mk (Below.refl w21.heap.size w21)
      refine two_ (i := 1) (j := 9) (Ni := some 100) (Nj := some 17) #[true, true, true, false, true, false, false, false, false, false, false, false] #[true, false, true, false, true, false, false, false, false, true, false, false] rfl rfl rfl rfl (two_of HT_.out (by kernel_rfl)) (by decide) (by decide) (fun K hK => ?_) (fun K hK => ?_)
      · skip
        refine goes_ Try.func14 (by kernel_rfl) rfl #[.agg #[.slice A0 l0.length c0, .slice A1 l1.length c1]] (by rfl) rfl rfl (by (try simp only [List.map_toArray, List.map_cons, List.map_nil]); first | done | rfl) ?_
        with_reducible refine (laws_toDfa.calls kt0 _ _ l0 _ _ l1 l0 l1 _ ?s1 HC0.out ?s2 HC1.out HKT0.out).mono ?_
        (case s1 => exact Kd.C_below HR0.out (below_then HB_.out HB_.out.size HBw.out))
        (case s2 => exact Kd.C_below HR1.out (below_then HB_.out HB_.out.size HBw.out))
        rintro e wc1 ⟨y0, y1, rfl, hf0, hf1, hb⟩
        refine ⟨_, rfl, ?_⟩
        have HE0 := Aside0.mk (Dv.fresh (base := w.heap.size) (Nat.le_trans HB_.out.size HBw.out.size) hf0 hf1)
        have HE0l := Aside0.mk HBw.out.size
        have HBw_n := Aside0.mk (below_then HBw.out HBw.out.size hb)
        clear HBw
        have HBw := HBw_n
        clear HBw_n
        obtain ⟨E0A, E0c, E0B, E0d, e0, e1, hs0, hs1⟩ := HE0.out.slices
        subst e0
        subst e1
        have HE0s := Aside0.mk hs0
        have HE0t := Aside0.mk hs1
        clear hs0 hs1 hf0 hf1
        refine hK.out _ _ ⟨pw_cell_below hb hHeld.1, pw_cell_below hb hHeld.2.1, pw_cell_below hb hHeld.2.2.1, pw_cell_below hb hHeld.2.2.2⟩ (fun hHeld => ?_)
        clear hK K hb
        refine norm_ (a' := ?_) ?_ ?_
        rotate_left
        · show Act.put _ (some 100) _ = _
          simp only [Act.put, List.setIfInBounds_toArray, List.set_cons_zero, List.set_cons_succ, i64_w, i32_w]
          rfl
        refine two_ (i := 3) (j := 9) (Ni := some 102) (Nj := some 17) #[true, true, true, true, true, false, false, false, false, false, false, false] #[true, true, true, false, true, false, false, false, false, true, false, false] rfl rfl rfl rfl (two_of HT_.out (by kernel_rfl)) (by decide) (by decide) (fun K hK => ?_) (fun K hK => ?_)
        · skip
          refine goes_ Try.func14 (by kernel_rfl) rfl #[.agg #[.slice A2 l2.length c2, .slice A3 l3.length c3]] (by rfl) rfl rfl (by (try simp only [List.map_toArray, List.map_cons, List.map_nil]); first | done | rfl) ?_
          with_reducible refine (laws_toDfa.calls kt1 _ _ l2 _ _ l3 l2 l3 _ ?s1 HC2.out ?s2 HC3.out HKT1.out).mono ?_
          (case s1 => exact Kd.C_below HR2.out (below_then HB_.out HB_.out.size HBw.out))
          (case s2 => exact Kd.C_below HR3.out (below_then HB_.out HB_.out.size HBw.out))
          rintro e wc2 ⟨y0, y1, rfl, hf0, hf1, hb⟩
          refine ⟨_, rfl, ?_⟩
          have HE1 := Aside0.mk (Dv.fresh (base := w.heap.size) (Nat.le_trans HB_.out.size HBw.out.size) hf0 hf1)
          have HE1l := Aside0.mk HBw.out.size
          have HBw_n := Aside0.mk (below_then HBw.out HBw.out.size hb)
          have HE0_n := Aside0.mk (HE0.out.below hb)
          clear HBw HE0
          have HBw := HBw_n
          have HE0 := HE0_n
          clear HBw_n HE0_n
          obtain ⟨E1A, E1c, E1B, E1d, e0, e1, hs0, hs1⟩ := HE1.out.slices
          subst e0
          subst e1
          have HE1s := Aside0.mk hs0
          have HE1t := Aside0.mk hs1
          clear hs0 hs1 hf0 hf1
          refine hK.out _ _ ⟨pw_cell_below hb hHeld.1, pw_cell_below hb hHeld.2.1, pw_cell_below hb hHeld.2.2.1, pw_cell_below hb hHeld.2.2.2⟩ (fun hHeld => ?_)
          clear hK K hb
          refine norm_ (a' := ?_) ?_ ?_
          rotate_left
          · show Act.put _ (some 102) _ = _
            simp only [Act.put, List.setIfInBounds_toArray, List.set_cons_zero, List.set_cons_succ, i64_w, i32_w]
            rfl
          refine two_ (i := 5) (j := 9) (Ni := some 104) (Nj := some 17) #[true, true, true, true, true, true, false, false, false, false, false, false] #[true, true, true, true, true, false, false, false, false, true, false, false] rfl rfl rfl rfl (two_of HT_.out (by kernel_rfl)) (by decide) (by decide) (fun K hK => ?_) (fun K hK => ?_)
          · skip
            refine goes_ Try.func20 (by kernel_rfl) rfl #[.agg #[.slice E0A l0.length E0c, .slice E0B l1.length E0d], .agg #[.slice E1A l2.length E1c, .slice E1B l3.length E1d], .int .i64 a2] (by rfl) rfl rfl (by (try simp only [List.map_toArray, List.map_cons, List.map_nil]); first | done | rfl) ?_
            with_reducible refine (impl_ProductDfa.calls _ _ l0 _ _ l1 _ _ l2 _ _ l3 a2 ma mn ok _ ?s1 HE0s.out ?s2 HE0t.out ?s3 HE1s.out ?s4 HE1t.out HKI.out).mono ?_
            (case s1 => exact HE0.out.c0)
            (case s2 => exact HE0.out.c1)
            (case s3 => exact HE1.out.c0)
            (case s4 => exact HE1.out.c1)
            rintro e wc3 ⟨y0, y1, rfl, hf0, hf1, hb⟩
            refine ⟨_, rfl, ?_⟩
            have HEW := Aside0.mk (Dv.fresh (base := w.heap.size) (Nat.le_trans HB_.out.size HBw.out.size) hf0 hf1)
            have HEWl := Aside0.mk HBw.out.size
            have HBw_n := Aside0.mk (below_then HBw.out HBw.out.size hb)
            have HE0_n := Aside0.mk (HE0.out.below hb)
            have HE1_n := Aside0.mk (HE1.out.below hb)
            clear HBw HE0 HE1
            have HBw := HBw_n
            have HE0 := HE0_n
            have HE1 := HE1_n
            clear HBw_n HE0_n HE1_n
            refine hK.out _ _ ⟨pw_cell_below hb hHeld.1, pw_cell_below hb hHeld.2.1, pw_cell_below hb hHeld.2.2.1, pw_cell_below hb hHeld.2.2.2⟩ (fun hHeld => ?_)
            clear hK K hb
            refine norm_ (a' := ?_) ?_ ?_
            rotate_left
            · show Act.put _ (some 104) _ = _
              simp only [Act.put, List.setIfInBounds_toArray, List.set_cons_zero, List.set_cons_succ, i64_w, i32_w]
              rfl
            have HEWh := Aside0.mk (Nat.le_refl (World.heap wc3).size)
            refine pure_ (i := 6) (N := some 98) (v := ?_) (a' := ?_) #[true, true, true, true, true, true, true, false, false, false, false, false] rfl rfl (any_of HT_.out (by kernel_rfl)) (fun _ _ _ h => h) (Or.inl ⟨by rfl, ?_⟩) ?_ ?_
            rotate_left
            · intro w'
              go_simp
              with_reducible rfl
            rotate_left
            · simp only [Act.put, List.setIfInBounds_toArray, List.set_cons_zero, List.set_cons_succ, i64_w, i32_w]
              rfl
            refine pure_ (i := 7) (N := some 105) (v := ?_) (a' := ?_) #[true, true, true, true, true, true, true, true, false, false, false, false] rfl rfl (any_of HT_.out (by kernel_rfl)) (fun _ _ _ h => h) (Or.inl ⟨by rfl, ?_⟩) ?_ ?_
            rotate_left
            · intro w'
              go_simp
              with_reducible rfl
            rotate_left
            · simp only [Act.put, List.setIfInBounds_toArray, List.set_cons_zero, List.set_cons_succ, i64_w, i32_w]
              rfl
            refine pure_ (i := 8) (N := some 106) (v := ?_) (a' := ?_) #[true, true, true, true, true, true, true, true, true, false, false, false] rfl rfl (any_of HT_.out (by kernel_rfl)) (fun _ _ _ h => h) (Or.inl ⟨by rfl, ?_⟩) ?_ ?_
            rotate_left
            · intro w'
              go_simp
              with_reducible rfl
            rotate_left
            · simp only [Act.put, List.setIfInBounds_toArray, List.set_cons_zero, List.set_cons_succ, i64_w, i32_w]
              rfl
            refine one_ (i := 9) (N := some 17) #[true, true, true, true, true, true, true, true, true, true, false, false] rfl rfl (one_of HT_.out (by kernel_rfl)) (by decide) (fun K hK => ?_)
            refine box_step ?hg (N := 17) ?hd (cs := #[.slice none 0 0, .slice none 0 0]) (t := 27) ?hr ?_; (case hd => rfl); (case hg => rfl); (case hr => first | (go_simp; done) | (go_simp; rfl))
            intro gb hg wa3 hbox hb
            have HGE := Aside0.mk (show w21.heap.size ≤ gb by rw [hg]; exact HBw.out.size)
            have HGB := Aside0.mk hbox
            have HBw_n := Aside0.mk (below_then HBw.out HBw.out.size hb)
            have HE0_n := Aside0.mk (HE0.out.below hb)
            have HE1_n := Aside0.mk (HE1.out.below hb)
            have HEW_n := Aside0.mk (HEW.out.below hb)
            have HEWh := Aside0.mk (Nat.le_trans HEWh.out hb.size)
            clear HBw HE0 HE1 HEW
            have HBw := HBw_n
            have HE0 := HE0_n
            have HE1 := HE1_n
            have HEW := HEW_n
            clear HBw_n HE0_n HE1_n HEW_n
            refine hK.out _ _ ⟨pw_cell_below hb hHeld.1, pw_cell_below hb hHeld.2.1, pw_cell_below hb hHeld.2.2.1, pw_cell_below hb hHeld.2.2.2⟩ (fun hHeld => ?_)
            clear hK K hb hbox
            refine norm_ (a' := ?_) ?_ ?_
            rotate_left
            · show Act.put _ (some 17) _ = _
              simp only [Act.put, List.setIfInBounds_toArray, List.set_cons_zero, List.set_cons_succ, i64_w, i32_w]
              rfl
            exact norm_ (by simp only [putAll, Act.put, List.setIfInBounds_toArray, List.set_cons_zero, List.set_cons_succ]) (hCont (.agg #[.slice E0A l0.length E0c, .slice E0B l1.length E0d], .agg #[.slice E1A l2.length E1c, .slice E1B l3.length E1d], _, _, gb) _ ⟨hHeld, HBw.out, ⟨_, _, HEW.out, HEWl.out, HEWh.out⟩, HGB.out, HGE.out⟩)
          · skip
            refine box_step ?hg (N := 17) ?hd (cs := #[.slice none 0 0, .slice none 0 0]) (t := 27) ?hr ?_; (case hd => rfl); (case hg => rfl); (case hr => first | (go_simp; done) | (go_simp; rfl))
            intro gb hg wa2 hbox hb
            have HGE := Aside0.mk (show w21.heap.size ≤ gb by rw [hg]; exact HBw.out.size)
            have HGB := Aside0.mk hbox
            have HBw_n := Aside0.mk (below_then HBw.out HBw.out.size hb)
            have HE0_n := Aside0.mk (HE0.out.below hb)
            have HE1_n := Aside0.mk (HE1.out.below hb)
            clear HBw HE0 HE1
            have HBw := HBw_n
            have HE0 := HE0_n
            have HE1 := HE1_n
            clear HBw_n HE0_n HE1_n
            refine hK.out _ _ ⟨pw_cell_below hb hHeld.1, pw_cell_below hb hHeld.2.1, pw_cell_below hb hHeld.2.2.1, pw_cell_below hb hHeld.2.2.2⟩ (fun hHeld => ?_)
            clear hK K hb hbox
            refine norm_ (a' := ?_) ?_ ?_
            rotate_left
            · show Act.put _ (some 17) _ = _
              simp only [Act.put, List.setIfInBounds_toArray, List.set_cons_zero, List.set_cons_succ, i64_w, i32_w]
              rfl
            refine one_ (i := 5) (N := some 104) #[true, true, true, true, true, true, false, false, false, true, false, false] rfl rfl (one_of HT_.out (by kernel_rfl)) (by decide) (fun K hK => ?_)
            refine goes_ Try.func20 (by kernel_rfl) rfl #[.agg #[.slice E0A l0.length E0c, .slice E0B l1.length E0d], .agg #[.slice E1A l2.length E1c, .slice E1B l3.length E1d], .int .i64 a2] (by rfl) rfl rfl (by (try simp only [List.map_toArray, List.map_cons, List.map_nil]); first | done | rfl) ?_
            with_reducible refine (impl_ProductDfa.calls _ _ l0 _ _ l1 _ _ l2 _ _ l3 a2 ma mn ok _ ?s1 HE0s.out ?s2 HE0t.out ?s3 HE1s.out ?s4 HE1t.out HKI.out).mono ?_
            (case s1 => exact HE0.out.c0)
            (case s2 => exact HE0.out.c1)
            (case s3 => exact HE1.out.c0)
            (case s4 => exact HE1.out.c1)
            rintro e wc32 ⟨y0, y1, rfl, hf0, hf1, hb⟩
            refine ⟨_, rfl, ?_⟩
            have HEW := Aside0.mk (Dv.fresh (base := w.heap.size) (Nat.le_trans HB_.out.size HBw.out.size) hf0 hf1)
            have HEWl := Aside0.mk HBw.out.size
            have HBw_n := Aside0.mk (below_then HBw.out HBw.out.size hb)
            have HE0_n := Aside0.mk (HE0.out.below hb)
            have HE1_n := Aside0.mk (HE1.out.below hb)
            have HGB_n := Aside0.mk (blk_below HGB.out hb)
            clear HBw HE0 HE1 HGB
            have HBw := HBw_n
            have HE0 := HE0_n
            have HE1 := HE1_n
            have HGB := HGB_n
            clear HBw_n HE0_n HE1_n HGB_n
            refine hK.out _ _ ⟨pw_cell_below hb hHeld.1, pw_cell_below hb hHeld.2.1, pw_cell_below hb hHeld.2.2.1, pw_cell_below hb hHeld.2.2.2⟩ (fun hHeld => ?_)
            clear hK K hb
            refine norm_ (a' := ?_) ?_ ?_
            rotate_left
            · show Act.put _ (some 104) _ = _
              simp only [Act.put, List.setIfInBounds_toArray, List.set_cons_zero, List.set_cons_succ, i64_w, i32_w]
              rfl
            have HEWh := Aside0.mk (Nat.le_refl (World.heap wc32).size)
            refine pure_ (i := 6) (N := some 98) (v := ?_) (a' := ?_) #[true, true, true, true, true, true, true, false, false, true, false, false] rfl rfl (any_of HT_.out (by kernel_rfl)) (fun _ _ _ h => h) (Or.inl ⟨by rfl, ?_⟩) ?_ ?_
            rotate_left
            · intro w'
              go_simp
              with_reducible rfl
            rotate_left
            · simp only [Act.put, List.setIfInBounds_toArray, List.set_cons_zero, List.set_cons_succ, i64_w, i32_w]
              rfl
            refine pure_ (i := 7) (N := some 105) (v := ?_) (a' := ?_) #[true, true, true, true, true, true, true, true, false, true, false, false] rfl rfl (any_of HT_.out (by kernel_rfl)) (fun _ _ _ h => h) (Or.inl ⟨by rfl, ?_⟩) ?_ ?_
            rotate_left
            · intro w'
              go_simp
              with_reducible rfl
            rotate_left
            · simp only [Act.put, List.setIfInBounds_toArray, List.set_cons_zero, List.set_cons_succ, i64_w, i32_w]
              rfl
            refine pure_ (i := 8) (N := some 106) (v := ?_) (a' := ?_) #[true, true, true, true, true, true, true, true, true, true, false, false] rfl rfl (any_of HT_.out (by kernel_rfl)) (fun _ _ _ h => h) (Or.inl ⟨by rfl, ?_⟩) ?_ ?_
            rotate_left
            · intro w'
              go_simp
              with_reducible rfl
            rotate_left
            · simp only [Act.put, List.setIfInBounds_toArray, List.set_cons_zero, List.set_cons_succ, i64_w, i32_w]
              rfl
            exact norm_ (by simp only [putAll, Act.put, List.setIfInBounds_toArray, List.set_cons_zero, List.set_cons_succ]) (hCont (.agg #[.slice E0A l0.length E0c, .slice E0B l1.length E0d], .agg #[.slice E1A l2.length E1c, .slice E1B l3.length E1d], _, _, gb) _ ⟨hHeld, HBw.out, ⟨_, _, HEW.out, HEWl.out, HEWh.out⟩, HGB.out, HGE.out⟩)
        · skip
          refine box_step ?hg (N := 17) ?hd (cs := #[.slice none 0 0, .slice none 0 0]) (t := 27) ?hr ?_; (case hd => rfl); (case hg => rfl); (case hr => first | (go_simp; done) | (go_simp; rfl))
          intro gb hg wa1 hbox hb
          have HGE := Aside0.mk (show w21.heap.size ≤ gb by rw [hg]; exact HBw.out.size)
          have HGB := Aside0.mk hbox
          have HBw_n := Aside0.mk (below_then HBw.out HBw.out.size hb)
          have HE0_n := Aside0.mk (HE0.out.below hb)
          clear HBw HE0
          have HBw := HBw_n
          have HE0 := HE0_n
          clear HBw_n HE0_n
          refine hK.out _ _ ⟨pw_cell_below hb hHeld.1, pw_cell_below hb hHeld.2.1, pw_cell_below hb hHeld.2.2.1, pw_cell_below hb hHeld.2.2.2⟩ (fun hHeld => ?_)
          clear hK K hb hbox
          refine norm_ (a' := ?_) ?_ ?_
          rotate_left
          · show Act.put _ (some 17) _ = _
            simp only [Act.put, List.setIfInBounds_toArray, List.set_cons_zero, List.set_cons_succ, i64_w, i32_w]
            rfl
          refine one_ (i := 3) (N := some 102) #[true, true, true, true, true, false, false, false, false, true, false, false] rfl rfl (one_of HT_.out (by kernel_rfl)) (by decide) (fun K hK => ?_)
          refine goes_ Try.func14 (by kernel_rfl) rfl #[.agg #[.slice A2 l2.length c2, .slice A3 l3.length c3]] (by rfl) rfl rfl (by (try simp only [List.map_toArray, List.map_cons, List.map_nil]); first | done | rfl) ?_
          with_reducible refine (laws_toDfa.calls kt1 _ _ l2 _ _ l3 l2 l3 _ ?s1 HC2.out ?s2 HC3.out HKT1.out).mono ?_
          (case s1 => exact Kd.C_below HR2.out (below_then HB_.out HB_.out.size HBw.out))
          (case s2 => exact Kd.C_below HR3.out (below_then HB_.out HB_.out.size HBw.out))
          rintro e wc21 ⟨y0, y1, rfl, hf0, hf1, hb⟩
          refine ⟨_, rfl, ?_⟩
          have HE1 := Aside0.mk (Dv.fresh (base := w.heap.size) (Nat.le_trans HB_.out.size HBw.out.size) hf0 hf1)
          have HE1l := Aside0.mk HBw.out.size
          have HBw_n := Aside0.mk (below_then HBw.out HBw.out.size hb)
          have HE0_n := Aside0.mk (HE0.out.below hb)
          have HGB_n := Aside0.mk (blk_below HGB.out hb)
          clear HBw HE0 HGB
          have HBw := HBw_n
          have HE0 := HE0_n
          have HGB := HGB_n
          clear HBw_n HE0_n HGB_n
          obtain ⟨E1A, E1c, E1B, E1d, e0, e1, hs0, hs1⟩ := HE1.out.slices
          subst e0
          subst e1
          have HE1s := Aside0.mk hs0
          have HE1t := Aside0.mk hs1
          clear hs0 hs1 hf0 hf1
          refine hK.out _ _ ⟨pw_cell_below hb hHeld.1, pw_cell_below hb hHeld.2.1, pw_cell_below hb hHeld.2.2.1, pw_cell_below hb hHeld.2.2.2⟩ (fun hHeld => ?_)
          clear hK K hb
          refine norm_ (a' := ?_) ?_ ?_
          rotate_left
          · show Act.put _ (some 102) _ = _
            simp only [Act.put, List.setIfInBounds_toArray, List.set_cons_zero, List.set_cons_succ, i64_w, i32_w]
            rfl
          refine one_ (i := 5) (N := some 104) #[true, true, true, true, true, true, false, false, false, true, false, false] rfl rfl (one_of HT_.out (by kernel_rfl)) (by decide) (fun K hK => ?_)
          refine goes_ Try.func20 (by kernel_rfl) rfl #[.agg #[.slice E0A l0.length E0c, .slice E0B l1.length E0d], .agg #[.slice E1A l2.length E1c, .slice E1B l3.length E1d], .int .i64 a2] (by rfl) rfl rfl (by (try simp only [List.map_toArray, List.map_cons, List.map_nil]); first | done | rfl) ?_
          with_reducible refine (impl_ProductDfa.calls _ _ l0 _ _ l1 _ _ l2 _ _ l3 a2 ma mn ok _ ?s1 HE0s.out ?s2 HE0t.out ?s3 HE1s.out ?s4 HE1t.out HKI.out).mono ?_
          (case s1 => exact HE0.out.c0)
          (case s2 => exact HE0.out.c1)
          (case s3 => exact HE1.out.c0)
          (case s4 => exact HE1.out.c1)
          rintro e wc31 ⟨y0, y1, rfl, hf0, hf1, hb⟩
          refine ⟨_, rfl, ?_⟩
          have HEW := Aside0.mk (Dv.fresh (base := w.heap.size) (Nat.le_trans HB_.out.size HBw.out.size) hf0 hf1)
          have HEWl := Aside0.mk HBw.out.size
          have HBw_n := Aside0.mk (below_then HBw.out HBw.out.size hb)
          have HE0_n := Aside0.mk (HE0.out.below hb)
          have HE1_n := Aside0.mk (HE1.out.below hb)
          have HGB_n := Aside0.mk (blk_below HGB.out hb)
          clear HBw HE0 HE1 HGB
          have HBw := HBw_n
          have HE0 := HE0_n
          have HE1 := HE1_n
          have HGB := HGB_n
          clear HBw_n HE0_n HE1_n HGB_n
          refine hK.out _ _ ⟨pw_cell_below hb hHeld.1, pw_cell_below hb hHeld.2.1, pw_cell_below hb hHeld.2.2.1, pw_cell_below hb hHeld.2.2.2⟩ (fun hHeld => ?_)
          clear hK K hb
          refine norm_ (a' := ?_) ?_ ?_
          rotate_left
          · show Act.put _ (some 104) _ = _
            simp only [Act.put, List.setIfInBounds_toArray, List.set_cons_zero, List.set_cons_succ, i64_w, i32_w]
            rfl
          have HEWh := Aside0.mk (Nat.le_refl (World.heap wc31).size)
          refine pure_ (i := 6) (N := some 98) (v := ?_) (a' := ?_) #[true, true, true, true, true, true, true, false, false, true, false, false] rfl rfl (any_of HT_.out (by kernel_rfl)) (fun _ _ _ h => h) (Or.inl ⟨by rfl, ?_⟩) ?_ ?_
          rotate_left
          · intro w'
            go_simp
            with_reducible rfl
          rotate_left
          · simp only [Act.put, List.setIfInBounds_toArray, List.set_cons_zero, List.set_cons_succ, i64_w, i32_w]
            rfl
          refine pure_ (i := 7) (N := some 105) (v := ?_) (a' := ?_) #[true, true, true, true, true, true, true, true, false, true, false, false] rfl rfl (any_of HT_.out (by kernel_rfl)) (fun _ _ _ h => h) (Or.inl ⟨by rfl, ?_⟩) ?_ ?_
          rotate_left
          · intro w'
            go_simp
            with_reducible rfl
          rotate_left
          · simp only [Act.put, List.setIfInBounds_toArray, List.set_cons_zero, List.set_cons_succ, i64_w, i32_w]
            rfl
          refine pure_ (i := 8) (N := some 106) (v := ?_) (a' := ?_) #[true, true, true, true, true, true, true, true, true, true, false, false] rfl rfl (any_of HT_.out (by kernel_rfl)) (fun _ _ _ h => h) (Or.inl ⟨by rfl, ?_⟩) ?_ ?_
          rotate_left
          · intro w'
            go_simp
            with_reducible rfl
          rotate_left
          · simp only [Act.put, List.setIfInBounds_toArray, List.set_cons_zero, List.set_cons_succ, i64_w, i32_w]
            rfl
          exact norm_ (by simp only [putAll, Act.put, List.setIfInBounds_toArray, List.set_cons_zero, List.set_cons_succ]) (hCont (.agg #[.slice E0A l0.length E0c, .slice E0B l1.length E0d], .agg #[.slice E1A l2.length E1c, .slice E1B l3.length E1d], _, _, gb) _ ⟨hHeld, HBw.out, ⟨_, _, HEW.out, HEWl.out, HEWh.out⟩, HGB.out, HGE.out⟩)
      · skip
        refine box_step ?hg (N := 17) ?hd (cs := #[.slice none 0 0, .slice none 0 0]) (t := 27) ?hr ?_; (case hd => rfl); (case hg => rfl); (case hr => first | (go_simp; done) | (go_simp; rfl))
        intro gb hg wa0 hbox hb
        have HGE := Aside0.mk (show w21.heap.size ≤ gb by rw [hg]; exact HBw.out.size)
        have HGB := Aside0.mk hbox
        have HBw_n := Aside0.mk (below_then HBw.out HBw.out.size hb)
        clear HBw
        have HBw := HBw_n
        clear HBw_n
        refine hK.out _ _ ⟨pw_cell_below hb hHeld.1, pw_cell_below hb hHeld.2.1, pw_cell_below hb hHeld.2.2.1, pw_cell_below hb hHeld.2.2.2⟩ (fun hHeld => ?_)
        clear hK K hb hbox
        refine norm_ (a' := ?_) ?_ ?_
        rotate_left
        · show Act.put _ (some 17) _ = _
          simp only [Act.put, List.setIfInBounds_toArray, List.set_cons_zero, List.set_cons_succ, i64_w, i32_w]
          rfl
        refine one_ (i := 1) (N := some 100) #[true, true, true, false, true, false, false, false, false, true, false, false] rfl rfl (one_of HT_.out (by kernel_rfl)) (by decide) (fun K hK => ?_)
        refine goes_ Try.func14 (by kernel_rfl) rfl #[.agg #[.slice A0 l0.length c0, .slice A1 l1.length c1]] (by rfl) rfl rfl (by (try simp only [List.map_toArray, List.map_cons, List.map_nil]); first | done | rfl) ?_
        with_reducible refine (laws_toDfa.calls kt0 _ _ l0 _ _ l1 l0 l1 _ ?s1 HC0.out ?s2 HC1.out HKT0.out).mono ?_
        (case s1 => exact Kd.C_below HR0.out (below_then HB_.out HB_.out.size HBw.out))
        (case s2 => exact Kd.C_below HR1.out (below_then HB_.out HB_.out.size HBw.out))
        rintro e wc10 ⟨y0, y1, rfl, hf0, hf1, hb⟩
        refine ⟨_, rfl, ?_⟩
        have HE0 := Aside0.mk (Dv.fresh (base := w.heap.size) (Nat.le_trans HB_.out.size HBw.out.size) hf0 hf1)
        have HE0l := Aside0.mk HBw.out.size
        have HBw_n := Aside0.mk (below_then HBw.out HBw.out.size hb)
        have HGB_n := Aside0.mk (blk_below HGB.out hb)
        clear HBw HGB
        have HBw := HBw_n
        have HGB := HGB_n
        clear HBw_n HGB_n
        obtain ⟨E0A, E0c, E0B, E0d, e0, e1, hs0, hs1⟩ := HE0.out.slices
        subst e0
        subst e1
        have HE0s := Aside0.mk hs0
        have HE0t := Aside0.mk hs1
        clear hs0 hs1 hf0 hf1
        refine hK.out _ _ ⟨pw_cell_below hb hHeld.1, pw_cell_below hb hHeld.2.1, pw_cell_below hb hHeld.2.2.1, pw_cell_below hb hHeld.2.2.2⟩ (fun hHeld => ?_)
        clear hK K hb
        refine norm_ (a' := ?_) ?_ ?_
        rotate_left
        · show Act.put _ (some 100) _ = _
          simp only [Act.put, List.setIfInBounds_toArray, List.set_cons_zero, List.set_cons_succ, i64_w, i32_w]
          rfl
        refine one_ (i := 3) (N := some 102) #[true, true, true, true, true, false, false, false, false, true, false, false] rfl rfl (one_of HT_.out (by kernel_rfl)) (by decide) (fun K hK => ?_)
        refine goes_ Try.func14 (by kernel_rfl) rfl #[.agg #[.slice A2 l2.length c2, .slice A3 l3.length c3]] (by rfl) rfl rfl (by (try simp only [List.map_toArray, List.map_cons, List.map_nil]); first | done | rfl) ?_
        with_reducible refine (laws_toDfa.calls kt1 _ _ l2 _ _ l3 l2 l3 _ ?s1 HC2.out ?s2 HC3.out HKT1.out).mono ?_
        (case s1 => exact Kd.C_below HR2.out (below_then HB_.out HB_.out.size HBw.out))
        (case s2 => exact Kd.C_below HR3.out (below_then HB_.out HB_.out.size HBw.out))
        rintro e wc20 ⟨y0, y1, rfl, hf0, hf1, hb⟩
        refine ⟨_, rfl, ?_⟩
        have HE1 := Aside0.mk (Dv.fresh (base := w.heap.size) (Nat.le_trans HB_.out.size HBw.out.size) hf0 hf1)
        have HE1l := Aside0.mk HBw.out.size
        have HBw_n := Aside0.mk (below_then HBw.out HBw.out.size hb)
        have HE0_n := Aside0.mk (HE0.out.below hb)
        have HGB_n := Aside0.mk (blk_below HGB.out hb)
        clear HBw HE0 HGB
        have HBw := HBw_n
        have HE0 := HE0_n
        have HGB := HGB_n
        clear HBw_n HE0_n HGB_n
        obtain ⟨E1A, E1c, E1B, E1d, e0, e1, hs0, hs1⟩ := HE1.out.slices
        subst e0
        subst e1
        have HE1s := Aside0.mk hs0
        have HE1t := Aside0.mk hs1
        clear hs0 hs1 hf0 hf1
        refine hK.out _ _ ⟨pw_cell_below hb hHeld.1, pw_cell_below hb hHeld.2.1, pw_cell_below hb hHeld.2.2.1, pw_cell_below hb hHeld.2.2.2⟩ (fun hHeld => ?_)
        clear hK K hb
        refine norm_ (a' := ?_) ?_ ?_
        rotate_left
        · show Act.put _ (some 102) _ = _
          simp only [Act.put, List.setIfInBounds_toArray, List.set_cons_zero, List.set_cons_succ, i64_w, i32_w]
          rfl
        refine one_ (i := 5) (N := some 104) #[true, true, true, true, true, true, false, false, false, true, false, false] rfl rfl (one_of HT_.out (by kernel_rfl)) (by decide) (fun K hK => ?_)
        refine goes_ Try.func20 (by kernel_rfl) rfl #[.agg #[.slice E0A l0.length E0c, .slice E0B l1.length E0d], .agg #[.slice E1A l2.length E1c, .slice E1B l3.length E1d], .int .i64 a2] (by rfl) rfl rfl (by (try simp only [List.map_toArray, List.map_cons, List.map_nil]); first | done | rfl) ?_
        with_reducible refine (impl_ProductDfa.calls _ _ l0 _ _ l1 _ _ l2 _ _ l3 a2 ma mn ok _ ?s1 HE0s.out ?s2 HE0t.out ?s3 HE1s.out ?s4 HE1t.out HKI.out).mono ?_
        (case s1 => exact HE0.out.c0)
        (case s2 => exact HE0.out.c1)
        (case s3 => exact HE1.out.c0)
        (case s4 => exact HE1.out.c1)
        rintro e wc30 ⟨y0, y1, rfl, hf0, hf1, hb⟩
        refine ⟨_, rfl, ?_⟩
        have HEW := Aside0.mk (Dv.fresh (base := w.heap.size) (Nat.le_trans HB_.out.size HBw.out.size) hf0 hf1)
        have HEWl := Aside0.mk HBw.out.size
        have HBw_n := Aside0.mk (below_then HBw.out HBw.out.size hb)
        have HE0_n := Aside0.mk (HE0.out.below hb)
        have HE1_n := Aside0.mk (HE1.out.below hb)
        have HGB_n := Aside0.mk (blk_below HGB.out hb)
        clear HBw HE0 HE1 HGB
        have HBw := HBw_n
        have HE0 := HE0_n
        have HE1 := HE1_n
        have HGB := HGB_n
        clear HBw_n HE0_n HE1_n HGB_n
        refine hK.out _ _ ⟨pw_cell_below hb hHeld.1, pw_cell_below hb hHeld.2.1, pw_cell_below hb hHeld.2.2.1, pw_cell_below hb hHeld.2.2.2⟩ (fun hHeld => ?_)
        clear hK K hb
        refine norm_ (a' := ?_) ?_ ?_
        rotate_left
        · show Act.put _ (some 104) _ = _
          simp only [Act.put, List.setIfInBounds_toArray, List.set_cons_zero, List.set_cons_succ, i64_w, i32_w]
          rfl
        have HEWh := Aside0.mk (Nat.le_refl (World.heap wc30).size)
        refine pure_ (i := 6) (N := some 98) (v := ?_) (a' := ?_) #[true, true, true, true, true, true, true, false, false, true, false, false] rfl rfl (any_of HT_.out (by kernel_rfl)) (fun _ _ _ h => h) (Or.inl ⟨by rfl, ?_⟩) ?_ ?_
        rotate_left
        · intro w'
          go_simp
          with_reducible rfl
        rotate_left
        · simp only [Act.put, List.setIfInBounds_toArray, List.set_cons_zero, List.set_cons_succ, i64_w, i32_w]
          rfl
        refine pure_ (i := 7) (N := some 105) (v := ?_) (a' := ?_) #[true, true, true, true, true, true, true, true, false, true, false, false] rfl rfl (any_of HT_.out (by kernel_rfl)) (fun _ _ _ h => h) (Or.inl ⟨by rfl, ?_⟩) ?_ ?_
        rotate_left
        · intro w'
          go_simp
          with_reducible rfl
        rotate_left
        · simp only [Act.put, List.setIfInBounds_toArray, List.set_cons_zero, List.set_cons_succ, i64_w, i32_w]
          rfl
        refine pure_ (i := 8) (N := some 106) (v := ?_) (a' := ?_) #[true, true, true, true, true, true, true, true, true, true, false, false] rfl rfl (any_of HT_.out (by kernel_rfl)) (fun _ _ _ h => h) (Or.inl ⟨by rfl, ?_⟩) ?_ ?_
        rotate_left
        · intro w'
          go_simp
          with_reducible rfl
        rotate_left
        · simp only [Act.put, List.setIfInBounds_toArray, List.set_cons_zero, List.set_cons_succ, i64_w, i32_w]
          rfl
        exact norm_ (by simp only [putAll, Act.put, List.setIfInBounds_toArray, List.set_cons_zero, List.set_cons_succ]) (hCont (.agg #[.slice E0A l0.length E0c, .slice E0B l1.length E0d], .agg #[.slice E1A l2.length E1c, .slice E1B l3.length E1d], _, _, gb) _ ⟨hHeld, HBw.out, ⟨_, _, HEW.out, HEWl.out, HEWh.out⟩, HGB.out, HGE.out⟩)
    rintro ⟨x31_0, x31_1, b0_, b1_, g_DH⟩ wj ⟨hHeld, hbj, ⟨lo_DH, hi_DH, hDj, hl1, hl2⟩, hGj, hgj⟩
    obtain ⟨DHA, DHc, DHB, DHd, e0, e1, hs0, hs1⟩ := hDj.slices
    subst e0
    subst e1
    refine norm_ (a' := ?_) ?_ ?_
    rotate_left
    · simp only [putAll, Act.put, List.setIfInBounds_toArray, List.set_cons_zero, List.set_cons_succ]
      rfl
    refine last_ (i := 10) (N := none) #[true, true, true, true, true, true, true, true, true, true, true, false] rfl rfl (one_of HT_.out (by kernel_rfl)) (by decide) (fun K hK => ?_)
    have hsz0 : wj.cell? ⟨g_DH, 0, none⟩ = some (.slice none 0 0) := (blk_cell hGj 0).trans rfl
    have hsz1 : wj.cell? ⟨g_DH, 1, none⟩ = some (.slice none 0 0) := (blk_cell hGj 1).trans rfl
    have hfr0 := blk_frozen hGj 0
    have hfr1 := blk_frozen hGj 1
    refine skip_ (w1 := ?_) (by rfl) rfl ?_ ?_
    rotate_left
    · go_simp
      rfl
    refine hK.out _ _ ?_
    clear hK K hsz0 hsz1 hfr0 hfr1
    refine pure_ (i := 11) (N := some 18) (v := ?_) (a' := ?_) #[true, true, true, true, true, true, true, true, true, true, true, true] rfl rfl (any_of HT_.out (by kernel_rfl)) (fun _ _ _ h => h) (Or.inl ⟨by rfl, ?_⟩) ?_ ?_
    rotate_left
    · intro w'
      go_simp
      with_reducible rfl
    rotate_left
    · simp only [Act.put, List.setIfInBounds_toArray, List.set_cons_zero, List.set_cons_succ, i64_w, i32_w]
      rfl
    refine done_ (done_of HT_.out (by kernel_rfl)) ?_
    clear HT_ HW_ hHeld
    have hG1 : (wj.setCell ⟨g_DH, 0, none⟩ (.slice DHA ma.length DHc)).heap[g_DH]? = some (.cells #[.slice DHA ma.length DHc, .slice none 0 0] 27 (0, 0)) := blk_put hGj 0 _ rfl
    have hG2 : ((wj.setCell ⟨g_DH, 0, none⟩ (.slice DHA ma.length DHc)).setCell ⟨g_DH, 1, none⟩ (.slice DHB mn.length DHd)).heap[g_DH]? = some (.cells #[.slice DHA ma.length DHc, .slice DHB mn.length DHd] 27 (0, 0)) := blk_put hG1 1 _ rfl
    have hD2 := (hDj.box hGj 0 (.slice DHA ma.length DHc)).box hG1 1 (.slice DHB mn.length DHd)
    have hb : Below w21.heap.size w21 ((wj.setCell ⟨g_DH, 0, none⟩ (.slice DHA ma.length DHc)).setCell ⟨g_DH, 1, none⟩ (.slice DHB mn.length DHd)) := below_set (below_set hbj hgj) hgj
    have hl3 : hi_DH ≤ ((wj.setCell ⟨g_DH, 0, none⟩ (.slice DHA ma.length DHc)).setCell ⟨g_DH, 1, none⟩ (.slice DHB mn.length DHd)).heap.size := by simpa [World.setCell] using hl2
    have p_DW_DH := Aside0.mk (Nat.le_trans DWh.out hl1)
    have p_D4_DH := Aside0.mk (Nat.le_trans D4h.out hl1)
    have p_D6_DH := Aside0.mk (Nat.le_trans D6h.out hl1)
    have p_DG_DH := Aside0.mk (Nat.le_trans DGh.out hl1)
    have p_BA0_DH := Aside0.mk (Nat.lt_of_lt_of_le (blk_lt BA0.out) hl1)
    have p_BA1_DH := Aside0.mk (Nat.lt_of_lt_of_le (blk_lt BA1.out) hl1)
    have p_BDW_DH := Aside0.mk (Nat.lt_of_lt_of_le (blk_lt BDW.out) hl1)
    have p_BD4_DH := Aside0.mk (Nat.lt_of_lt_of_le (blk_lt BD4.out) hl1)
    have p_BD6_DH := Aside0.mk (Nat.lt_of_lt_of_le (blk_lt BD6.out) hl1)
    have p_BDG_DH := Aside0.mk (Nat.lt_of_lt_of_le (blk_lt BDG.out) hl1)
    have p_DW_BDH := Aside0.mk (Nat.le_trans DWh.out hgj)
    have p_D4_BDH := Aside0.mk (Nat.le_trans D4h.out hgj)
    have p_D6_BDH := Aside0.mk (Nat.le_trans D6h.out hgj)
    have p_DG_BDH := Aside0.mk (Nat.le_trans DGh.out hgj)
    have p_BA0_BDH := Aside0.mk (Nat.lt_of_lt_of_le (blk_lt BA0.out) hgj)
    have p_BA1_BDH := Aside0.mk (Nat.lt_of_lt_of_le (blk_lt BA1.out) hgj)
    have p_BDW_BDH := Aside0.mk (Nat.lt_of_lt_of_le (blk_lt BDW.out) hgj)
    have p_BD4_BDH := Aside0.mk (Nat.lt_of_lt_of_le (blk_lt BD4.out) hgj)
    have p_BD6_BDH := Aside0.mk (Nat.lt_of_lt_of_le (blk_lt BD6.out) hgj)
    have p_BDG_BDH := Aside0.mk (Nat.lt_of_lt_of_le (blk_lt BDG.out) hgj)
    have HB__n := Aside0.mk (below_then HB_.out HB_.out.size hb)
    have BA0_n := Aside0.mk ((hb.block _ (blk_lt BA0.out)).trans BA0.out)
    have BA1_n := Aside0.mk ((hb.block _ (blk_lt BA1.out)).trans BA1.out)
    have BDW_n := Aside0.mk ((hb.block _ (blk_lt BDW.out)).trans BDW.out)
    have BD4_n := Aside0.mk ((hb.block _ (blk_lt BD4.out)).trans BD4.out)
    have BD6_n := Aside0.mk ((hb.block _ (blk_lt BD6.out)).trans BD6.out)
    have BDG_n := Aside0.mk ((hb.block _ (blk_lt BDG.out)).trans BDG.out)
    have DW_n := Aside0.mk (DW.out.below hb)
    have D4_n := Aside0.mk (D4.out.below hb)
    have D6_n := Aside0.mk (D6.out.below hb)
    have DG_n := Aside0.mk (DG.out.below hb)
    have DWh := Aside0.mk (Nat.le_trans DWh.out hb.size)
    have D4h := Aside0.mk (Nat.le_trans D4h.out hb.size)
    have D6h := Aside0.mk (Nat.le_trans D6h.out hb.size)
    have DGh := Aside0.mk (Nat.le_trans DGh.out hb.size)
    clear HB_ BA0 BA1 BDW BD4 BD6 BDG DW D4 D6 DG
    have HB_ := HB__n
    have BA0 := BA0_n
    have BA1 := BA1_n
    have BDW := BDW_n
    have BD4 := BD4_n
    have BD6 := BD6_n
    have BDG := BDG_n
    have DW := DW_n
    have D4 := D4_n
    have D6 := D6_n
    have DG := DG_n
    clear HB__n BA0_n BA1_n BDW_n BD4_n BD6_n BDG_n DW_n D4_n D6_n DG_n
    have DH := Aside0.mk hD2
    have DHh := Aside0.mk hl3
    have DHs := Aside0.mk hs0
    have DHt := Aside0.mk hs1
    have BDH := Aside0.mk hG2
    clear hG1 hG2 hD2 hDj hGj hbj hgj hl1 hl2 hl3 hs0 hs1 hb
    generalize (wj.setCell ⟨g_DH, 0, none⟩ (.slice DHA ma.length DHc)).setCell ⟨g_DH, 1, none⟩ (.slice DHB mn.length DHd) = w22 at HB_ BA0 BA1 BDW BD4 BD6 BDG BDH DW D4 D6 DG DH DWh D4h D6h DGh DHh ⊢
    have hz_BA0_0 : World.cell? w22 ⟨w.heap.size, 0, none⟩ = some (.slice A0 l0.length c0) := (blk_cell BA0.out 0).trans rfl
    have hz_BA0_1 : World.cell? w22 ⟨w.heap.size, 1, none⟩ = some (.slice A1 l1.length c1) := (blk_cell BA0.out 1).trans rfl
    have hz_BA1_0 : World.cell? w22 ⟨w.heap.size + 1, 0, none⟩ = some (.slice A2 l2.length c2) := (blk_cell BA1.out 0).trans rfl
    have hz_BA1_1 : World.cell? w22 ⟨w.heap.size + 1, 1, none⟩ = some (.slice A3 l3.length c3) := (blk_cell BA1.out 1).trans rfl
    have hz_BDW_0 : World.cell? w22 ⟨g_DW, 0, none⟩ = some (.slice DWA ma.length DWc) := (blk_cell BDW.out 0).trans rfl
    have hz_BDW_1 : World.cell? w22 ⟨g_DW, 1, none⟩ = some (.slice DWB mn.length DWd) := (blk_cell BDW.out 1).trans rfl
    have hz_BD4_0 : World.cell? w22 ⟨w6.heap.size, 0, none⟩ = some (.slice D4A l0.length D4c) := (blk_cell BD4.out 0).trans rfl
    have hz_BD4_1 : World.cell? w22 ⟨w6.heap.size, 1, none⟩ = some (.slice D4B l1.length D4d) := (blk_cell BD4.out 1).trans rfl
    have hz_BD6_0 : World.cell? w22 ⟨w7.heap.size, 0, none⟩ = some (.slice D6A l2.length D6c) := (blk_cell BD6.out 0).trans rfl
    have hz_BD6_1 : World.cell? w22 ⟨w7.heap.size, 1, none⟩ = some (.slice D6B l3.length D6d) := (blk_cell BD6.out 1).trans rfl
    have hz_BDG_0 : World.cell? w22 ⟨w8.heap.size, 0, none⟩ = some (.slice DGA ma.length DGc) := (blk_cell BDG.out 0).trans rfl
    have hz_BDG_1 : World.cell? w22 ⟨w8.heap.size, 1, none⟩ = some (.slice DGB mn.length DGd) := (blk_cell BDG.out 1).trans rfl
    have hz_BDH_0 : World.cell? w22 ⟨g_DH, 0, none⟩ = some (.slice DHA ma.length DHc) := (blk_cell BDH.out 0).trans rfl
    have hz_BDH_1 : World.cell? w22 ⟨g_DH, 1, none⟩ = some (.slice DHB mn.length DHd) := (blk_cell BDH.out 1).trans rfl
    go_wp2_with (first
      | ((with_reducible refine gate_callee (f := 16) rfl ?_); refine goesL_ (some 109) rfl rfl Try.func16 (by kernel_rfl) rfl #[.agg #[.slice DHA ma.length DHc, .slice DHB mn.length DHd], .agg #[.slice DWA ma.length DWc, .slice DWB mn.length DWd]] rfl (by (try simp only [List.map_toArray, List.map_cons, List.map_nil]); first | done | rfl) ?_; (with_reducible refine (laws_eqDfa.calls keq _ _ ma _ _ mn _ _ ma _ _ mn true _ ?s1 DHs.out ?s2 DHt.out ?s3 DWs.out ?s4 DWt.out HKEq.out).mono ?_); (case s1 => exact DH.out.c0); (case s2 => exact DH.out.c1); (case s3 => exact DW.out.c0); (case s4 => exact DW.out.c1); rintro e w23 ⟨rfl, hb⟩; (try clear hz_BA0_0); (try clear hz_BA0_1); (try clear hz_BA1_0); (try clear hz_BA1_1); (try clear hz_BDW_0); (try clear hz_BDW_1); (try clear hz_BD4_0); (try clear hz_BD4_1); (try clear hz_BD6_0); (try clear hz_BD6_1); (try clear hz_BDG_0); (try clear hz_BDG_1); (try clear hz_BDH_0); (try clear hz_BDH_1); have HB__n := Aside0.mk (below_then HB_.out HB_.out.size hb); have BA0_n := Aside0.mk ((hb.block _ (blk_lt BA0.out)).trans BA0.out); have BA1_n := Aside0.mk ((hb.block _ (blk_lt BA1.out)).trans BA1.out); have BDW_n := Aside0.mk ((hb.block _ (blk_lt BDW.out)).trans BDW.out); have BD4_n := Aside0.mk ((hb.block _ (blk_lt BD4.out)).trans BD4.out); have BD6_n := Aside0.mk ((hb.block _ (blk_lt BD6.out)).trans BD6.out); have BDG_n := Aside0.mk ((hb.block _ (blk_lt BDG.out)).trans BDG.out); have BDH_n := Aside0.mk ((hb.block _ (blk_lt BDH.out)).trans BDH.out); have DW_n := Aside0.mk (DW.out.below hb); have D4_n := Aside0.mk (D4.out.below hb); have D6_n := Aside0.mk (D6.out.below hb); have DG_n := Aside0.mk (DG.out.below hb); have DH_n := Aside0.mk (DH.out.below hb); have DWh := Aside0.mk (Nat.le_trans DWh.out hb.size); have D4h := Aside0.mk (Nat.le_trans D4h.out hb.size); have D6h := Aside0.mk (Nat.le_trans D6h.out hb.size); have DGh := Aside0.mk (Nat.le_trans DGh.out hb.size); have DHh := Aside0.mk (Nat.le_trans DHh.out hb.size); clear HB_ BA0 BA1 BDW BD4 BD6 BDG BDH DW D4 D6 DG DH; have HB_ := HB__n; have BA0 := BA0_n; have BA1 := BA1_n; have BDW := BDW_n; have BD4 := BD4_n; have BD6 := BD6_n; have BDG := BDG_n; have BDH := BDH_n; have DW := DW_n; have D4 := D4_n; have D6 := D6_n; have DG := DG_n; have DH := DH_n; clear HB__n BA0_n BA1_n BDW_n BD4_n BD6_n BDG_n BDH_n DW_n D4_n D6_n DG_n DH_n; clear hb; have hz_BA0_0 : World.cell? w23 ⟨w.heap.size, 0, none⟩ = some (.slice A0 l0.length c0) := (blk_cell BA0.out 0).trans rfl; have hz_BA0_1 : World.cell? w23 ⟨w.heap.size, 1, none⟩ = some (.slice A1 l1.length c1) := (blk_cell BA0.out 1).trans rfl; have hz_BA1_0 : World.cell? w23 ⟨w.heap.size + 1, 0, none⟩ = some (.slice A2 l2.length c2) := (blk_cell BA1.out 0).trans rfl; have hz_BA1_1 : World.cell? w23 ⟨w.heap.size + 1, 1, none⟩ = some (.slice A3 l3.length c3) := (blk_cell BA1.out 1).trans rfl; have hz_BDW_0 : World.cell? w23 ⟨g_DW, 0, none⟩ = some (.slice DWA ma.length DWc) := (blk_cell BDW.out 0).trans rfl; have hz_BDW_1 : World.cell? w23 ⟨g_DW, 1, none⟩ = some (.slice DWB mn.length DWd) := (blk_cell BDW.out 1).trans rfl; have hz_BD4_0 : World.cell? w23 ⟨w6.heap.size, 0, none⟩ = some (.slice D4A l0.length D4c) := (blk_cell BD4.out 0).trans rfl; have hz_BD4_1 : World.cell? w23 ⟨w6.heap.size, 1, none⟩ = some (.slice D4B l1.length D4d) := (blk_cell BD4.out 1).trans rfl; have hz_BD6_0 : World.cell? w23 ⟨w7.heap.size, 0, none⟩ = some (.slice D6A l2.length D6c) := (blk_cell BD6.out 0).trans rfl; have hz_BD6_1 : World.cell? w23 ⟨w7.heap.size, 1, none⟩ = some (.slice D6B l3.length D6d) := (blk_cell BD6.out 1).trans rfl; have hz_BDG_0 : World.cell? w23 ⟨w8.heap.size, 0, none⟩ = some (.slice DGA ma.length DGc) := (blk_cell BDG.out 0).trans rfl; have hz_BDG_1 : World.cell? w23 ⟨w8.heap.size, 1, none⟩ = some (.slice DGB mn.length DGd) := (blk_cell BDG.out 1).trans rfl; have hz_BDH_0 : World.cell? w23 ⟨g_DH, 0, none⟩ = some (.slice DHA ma.length DHc) := (blk_cell BDH.out 0).trans rfl; have hz_BDH_1 : World.cell? w23 ⟨g_DH, 1, none⟩ = some (.slice DHB mn.length DHd) := (blk_cell BDH.out 1).trans rfl; refine ⟨_, rfl, ?_⟩)
      | ((with_reducible refine gate_callee (f := 18) rfl ?_); refine goesL_ (some 118) rfl rfl Try.func18 (by kernel_rfl) rfl #[.agg #[.slice DGA ma.length DGc, .slice DGB mn.length DGd], .int .i64 1] rfl (by (try simp only [List.map_toArray, List.map_cons, List.map_nil]); first | done | rfl) ?_; (with_reducible refine (heldDv DG.out ?s1 ?s2 ?s3).mono ?_); (case s1 => exact by have := HM.out; omega); (case s2 => exact by have := HM.out; omega); (case s3 => exact fun x hx => by have := HM.out.2.2 x hx; omega); rintro e w24 ⟨rfl, hb⟩; (try clear hz_BA0_0); (try clear hz_BA0_1); (try clear hz_BA1_0); (try clear hz_BA1_1); (try clear hz_BDW_0); (try clear hz_BDW_1); (try clear hz_BD4_0); (try clear hz_BD4_1); (try clear hz_BD6_0); (try clear hz_BD6_1); (try clear hz_BDG_0); (try clear hz_BDG_1); (try clear hz_BDH_0); (try clear hz_BDH_1); have HB__n := Aside0.mk (below_then HB_.out HB_.out.size hb); have BA0_n := Aside0.mk ((hb.block _ (blk_lt BA0.out)).trans BA0.out); have BA1_n := Aside0.mk ((hb.block _ (blk_lt BA1.out)).trans BA1.out); have BDW_n := Aside0.mk ((hb.block _ (blk_lt BDW.out)).trans BDW.out); have BD4_n := Aside0.mk ((hb.block _ (blk_lt BD4.out)).trans BD4.out); have BD6_n := Aside0.mk ((hb.block _ (blk_lt BD6.out)).trans BD6.out); have BDG_n := Aside0.mk ((hb.block _ (blk_lt BDG.out)).trans BDG.out); have BDH_n := Aside0.mk ((hb.block _ (blk_lt BDH.out)).trans BDH.out); have DW_n := Aside0.mk (DW.out.below hb); have D4_n := Aside0.mk (D4.out.below hb); have D6_n := Aside0.mk (D6.out.below hb); have DG_n := Aside0.mk (DG.out.below hb); have DH_n := Aside0.mk (DH.out.below hb); have DWh := Aside0.mk (Nat.le_trans DWh.out hb.size); have D4h := Aside0.mk (Nat.le_trans D4h.out hb.size); have D6h := Aside0.mk (Nat.le_trans D6h.out hb.size); have DGh := Aside0.mk (Nat.le_trans DGh.out hb.size); have DHh := Aside0.mk (Nat.le_trans DHh.out hb.size); clear HB_ BA0 BA1 BDW BD4 BD6 BDG BDH DW D4 D6 DG DH; have HB_ := HB__n; have BA0 := BA0_n; have BA1 := BA1_n; have BDW := BDW_n; have BD4 := BD4_n; have BD6 := BD6_n; have BDG := BDG_n; have BDH := BDH_n; have DW := DW_n; have D4 := D4_n; have D6 := D6_n; have DG := DG_n; have DH := DH_n; clear HB__n BA0_n BA1_n BDW_n BD4_n BD6_n BDG_n BDH_n DW_n D4_n D6_n DG_n DH_n; clear hb; have hz_BA0_0 : World.cell? w24 ⟨w.heap.size, 0, none⟩ = some (.slice A0 l0.length c0) := (blk_cell BA0.out 0).trans rfl; have hz_BA0_1 : World.cell? w24 ⟨w.heap.size, 1, none⟩ = some (.slice A1 l1.length c1) := (blk_cell BA0.out 1).trans rfl; have hz_BA1_0 : World.cell? w24 ⟨w.heap.size + 1, 0, none⟩ = some (.slice A2 l2.length c2) := (blk_cell BA1.out 0).trans rfl; have hz_BA1_1 : World.cell? w24 ⟨w.heap.size + 1, 1, none⟩ = some (.slice A3 l3.length c3) := (blk_cell BA1.out 1).trans rfl; have hz_BDW_0 : World.cell? w24 ⟨g_DW, 0, none⟩ = some (.slice DWA ma.length DWc) := (blk_cell BDW.out 0).trans rfl; have hz_BDW_1 : World.cell? w24 ⟨g_DW, 1, none⟩ = some (.slice DWB mn.length DWd) := (blk_cell BDW.out 1).trans rfl; have hz_BD4_0 : World.cell? w24 ⟨w6.heap.size, 0, none⟩ = some (.slice D4A l0.length D4c) := (blk_cell BD4.out 0).trans rfl; have hz_BD4_1 : World.cell? w24 ⟨w6.heap.size, 1, none⟩ = some (.slice D4B l1.length D4d) := (blk_cell BD4.out 1).trans rfl; have hz_BD6_0 : World.cell? w24 ⟨w7.heap.size, 0, none⟩ = some (.slice D6A l2.length D6c) := (blk_cell BD6.out 0).trans rfl; have hz_BD6_1 : World.cell? w24 ⟨w7.heap.size, 1, none⟩ = some (.slice D6B l3.length D6d) := (blk_cell BD6.out 1).trans rfl; have hz_BDG_0 : World.cell? w24 ⟨w8.heap.size, 0, none⟩ = some (.slice DGA ma.length DGc) := (blk_cell BDG.out 0).trans rfl; have hz_BDG_1 : World.cell? w24 ⟨w8.heap.size, 1, none⟩ = some (.slice DGB mn.length DGd) := (blk_cell BDG.out 1).trans rfl; have hz_BDH_0 : World.cell? w24 ⟨g_DH, 0, none⟩ = some (.slice DHA ma.length DHc) := (blk_cell BDH.out 0).trans rfl; have hz_BDH_1 : World.cell? w24 ⟨g_DH, 1, none⟩ = some (.slice DHB mn.length DHd) := (blk_cell BDH.out 1).trans rfl; refine ⟨_, rfl, ?_⟩))
    go_ret
    exact ⟨rfl, HB_.out⟩
end Go.Proofs.Ytogamkblkoobkaa.Wk
end
