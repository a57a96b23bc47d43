/- The closures of firstPair. No condition. -/
import Derived.Test.YtoknogcefajfiaaFwP
import Derived.Test.YtoknogcefajfiaaShW

namespace Go.Proofs.Ytoknogcefajfiaa.Wk
open Go.RowKit Go.Shelf Go.Proofs.Ytoknogcefajfiaa.P Go.Proofs.Ytoknogcefajfiaa.Pl Go.Proofs.Ytoknogcefajfiaa.Mp Go.Proofs.Ytoknogcefajfiaa.Bf Go.Proofs.YtoknogcefajfiaaW.PrintWords Go.Proofs.YtoknogcefajfiaaW.PrintLast Go.Proofs.YtoknogcefajfiaaW.PrintMore
set_option linter.unusedVariables false
set_option linter.unusedSimpArgs false

section
variable {P : Program} {md : Region.Mode} {ops : Array Oper} {Q : Exit → Act → World → Prop}
/-- A call of a function value, as a step of a region that draws its order. -/
theorem goesFn_ {oi : Oper} {N : Option Tmp} {a : Act} {w : World} {K : Act → World → Prop} (g : FuncId) (lb : Array Value) (t : Operand) {ar : Array Operand} {ts : Array TypeId} (args : Array Value) (eg : ∀ args w, (callFunc g args).run P w = .ok (.enter g args) w)
    (hw : Region.wanted oi (yielded ops a.tmps) = true) (hN : oi.dst = N) (hop : oi.op = .call { callee := .value t, args := ar, argTypes := ts }) (ht : a.eval t = .func (.func g) #[] lb) (hargs : ar.map a.eval = args)
    (h : Calls P g (args ++ lb) w fun e w' => ∃ v, e = .returned v ∧ K (a.put N v) w') : if Region.wanted oi (yielded ops a.tmps) = true then Oper.wp P oi a w K Q else K (a.put N undef) w := by
  refine call_ g (args ++ lb) hw hN ?_ h
  unfold execOp
  simp [hop, resolve, Deferred.ofValue, invoke, ht, hargs, eg]
end
def Tg1 : Bool × List (List Nat × List Nat) := (true, [([], []), ([], []), ([1], [1]), ([], []), ([3], [3]), ([2, 4], [2, 4]), ([5], [5]), ([], []), ([7], [7]), ([], []), ([9], [9]), ([8, 10], [8, 10]), ([11], [11]), ([0, 6, 12], [0, 6, 12]), ([13, 13, 0, 1, 2, 3, 4, 5, 6, 7, 8, 9, 10, 11, 12, 13], [13])])
def Bg1 : List Nat := [0, 0, 2, 0, 8, 30, 62, 0, 128, 0, 512, 1920, 3968, 8191, 16383]
theorem tabg1 : rtab .any (opsOf Try.f103 1) = Tg1 := by kernel_rfl
theorem bitsg1 : waitsOk Tg1.2 Bg1 = true := by kernel_rfl
def Tn1 : Bool × List (List Nat × List Nat) := (true, [([], []), ([0], [0]), ([], []), ([2], [2]), ([1, 3], [1, 3]), ([4], [4]), ([], []), ([5, 6], [5, 6]), ([7], [7]), ([], []), ([9], [9]), ([], []), ([11], [11]), ([10, 12], [10, 12]), ([13], [13]), ([], []), ([14, 15], [14, 15]), ([16], [16]), ([8, 17], [8, 17]), ([18, 0, 1, 2, 3, 4, 5, 6, 7, 8, 9, 10, 11, 12, 13, 14, 15, 16, 17, 18], [18])])
def Bn1 : List Nat := [0, 1, 0, 4, 15, 31, 0, 127, 255, 0, 512, 0, 2048, 7680, 15872, 0, 65024, 130560, 262143, 524287]
theorem tabn1 : rtab .any (opsOf Try.f104 1) = Tn1 := by kernel_rfl
theorem bitsn1 : waitsOk Tn1.2 Bn1 = true := by kernel_rfl

set_option maxHeartbeats 4000000 in
set_option maxRecDepth 100000 in
theorem fpGood (A0 : Option Addr) (c0 : Nat) (l0 : List Bool) (A1 : Option Addr) (c1 : Nat) (l1 : List Bool) (G Ga Gb gg : Nat) (good : Bool → Bool → Bool) (egg : ∀ args w, (callFunc gg args).run Try.prog w = .ok (.enter gg args) w)
    (hgood : ∀ (p q : Bool) (W : World), Calls Try.prog gg #[.bool p, .bool q] W fun e W' => e = .returned (.bool (good p q)) ∧ W = W') (x : Pr) (W : World)
    (hx0 : 0 ≤ x.1) (hx1 : x.1 < l0.length) (hy0 : 0 ≤ x.2) (hy1 : x.2 < l1.length) (hG : W.cell? ⟨G, 0, none⟩ = some (.func (.func gg) #[] #[])) (ha : W.cell? ⟨Ga, 0, none⟩ = some (.slice A0 l0.length c0)) (hb : W.cell? ⟨Gb, 0, none⟩ = some (.slice A1 l1.length c1))
    (hr0 : Kd.C Kd.bool W A0 l0.length l0) (hr1 : Kd.C Kd.bool W A1 l1.length l1) :
    Calls Try.prog 103 (#[.agg #[.int .i64 x.1, .int .i64 x.2]] ++ #[.pointer (some ⟨G, 0, none⟩), .pointer (some ⟨Ga, 0, none⟩), .pointer (some ⟨Gb, 0, none⟩)]) W fun e W' => e = .returned (.bool (good (rdOf false l0 x.1) (rdOf false l1 x.2))) ∧ Below W.heap.size W W' := by
  obtain ⟨a0, rfl, hu⟩ := Kd.at_bool hr0 x.1 hx0 hx1
  obtain ⟨a1, rfl, hv⟩ := Kd.at_bool hr1 x.2 hy0 hy1
  generalize rdOf false l0 x.1 = u at hu ⊢
  generalize rdOf false l1 x.2 = v at hv ⊢
  have HB := Aside0.mk (below_alloc (Below.refl W.heap.size W) (Obj.cells #[Value.int IntKind.i64 x.1, Value.int IntKind.i64 x.2] 93))
  have kG := pw_cell_below HB.out hG
  have ka := pw_cell_below HB.out ha
  have kb := pw_cell_below HB.out hb
  have ku := pw_cell_below HB.out hu
  have kv := pw_cell_below HB.out hv
  have p1 := eq_true hx0
  have q1 := eq_true hx1
  have p2 := eq_true hy0
  have q2 := eq_true hy1
  clear hx0 hx1 hy0 hy1 hr0 hr1 hG ha hb hu hv
  go_enter Try.func103, Try.ntmps103
  go_wp2
  have s0 : World.cell? (W.alloc (Obj.cells #[Value.int IntKind.i64 x.1, Value.int IntKind.i64 x.2] 93)) ⟨W.heap.size, 0, none⟩ = some (.int .i64 x.1) := by simp
  have s1 : World.cell? (W.alloc (Obj.cells #[Value.int IntKind.i64 x.1, Value.int IntKind.i64 x.2] 93)) ⟨W.heap.size, 1, none⟩ = some (.int .i64 x.2) := by simp
  have HBD := Aside0.mk (below_drew HB.out)
  refine start_ (n := 15) (S := (fun w' => w'.cell? ⟨G, 0, none⟩ = some (.func (.func gg) #[] #[]) ∧ w'.cell? ⟨Ga, 0, none⟩ = some (.slice (some a0) l0.length c0) ∧ w'.cell? ⟨Gb, 0, none⟩ = some (.slice (some a1) l1.length c1) ∧ w'.cell? ⟨W.heap.size, 0, none⟩ = some (.int .i64 x.1) ∧ w'.cell? ⟨W.heap.size, 1, none⟩ = some (.int .i64 x.2) ∧ w'.cell? (a0.add x.1.toNat) = some (.bool u) ∧ w'.cell? (a1.add x.2.toNat) = some (.bool v))) (ds := [13]) #[false, false, false, false, false, false, false, false, false, false, false, false, false, false, false] (by kernel_rfl) rfl rfl (⟨kG, ka, kb, s0, s1, ku, kv⟩) (fun hHeld => ?_); refine with_tabW tabg1 bitsg1 (fun HT_ HW_ => ?_)
  generalize World.drew (W.alloc (Obj.cells #[Value.int IntKind.i64 x.1, Value.int IntKind.i64 x.2] 93)) = W1 at HBD hHeld ⊢
  refine pure_ (i := 1) (N := some 7) (v := ?_) (a' := ?_) #[false, true, false, false, false, false, false, false, false, false, false, false, false, false, false] rfl rfl (any_of HT_.out (by kernel_rfl)) (fun _ _ _ h => h) (Or.inl ⟨by rfl, ?_⟩) ?_ ?_
  rotate_left
  · intro w'
    go_simp
    with_reducible rfl
  rotate_left
  · simp only [Act.put, List.setIfInBounds_toArray, List.set_cons_zero, List.set_cons_succ, i64_w, i32_w]
    rfl
  refine pure_ (i := 3) (N := some 9) (v := ?_) (a' := ?_) #[false, true, false, true, false, false, false, false, false, false, false, false, false, false, false] rfl rfl (any_of HT_.out (by kernel_rfl)) (fun _ _ _ h => h) (Or.inl ⟨by rfl, ?_⟩) ?_ ?_
  rotate_left
  · intro w'
    go_simp
    with_reducible rfl
  rotate_left
  · simp only [Act.put, List.setIfInBounds_toArray, List.set_cons_zero, List.set_cons_succ, i64_w, i32_w]
    rfl
  refine pure_ (i := 7) (N := some 13) (v := ?_) (a' := ?_) #[false, true, false, true, false, false, false, true, false, false, false, false, false, false, false] rfl rfl (any_of HT_.out (by kernel_rfl)) (fun _ _ _ h => h) (Or.inl ⟨by rfl, ?_⟩) ?_ ?_
  rotate_left
  · intro w'
    go_simp
    with_reducible rfl
  rotate_left
  · simp only [Act.put, List.setIfInBounds_toArray, List.set_cons_zero, List.set_cons_succ, i64_w, i32_w]
    rfl
  refine pure_ (i := 9) (N := some 15) (v := ?_) (a' := ?_) #[false, true, false, true, false, false, false, true, false, true, false, false, false, false, false] rfl rfl (any_of HT_.out (by kernel_rfl)) (fun _ _ _ h => h) (Or.inl ⟨by rfl, ?_⟩) ?_ ?_
  rotate_left
  · intro w'
    go_simp
    with_reducible rfl
  rotate_left
  · simp only [Act.put, List.setIfInBounds_toArray, List.set_cons_zero, List.set_cons_succ, i64_w, i32_w]
    rfl
  refine take_ (i := 0) (N := some 6) (v := ?_) (a' := ?_) #[true, true, false, true, false, false, false, true, false, true, false, false, false, false, false] rfl rfl (take_ofW HT_.out HW_.out (by kernel_rfl)) (fun _ _ _ h => h) (Or.inl ⟨by rfl, ?_⟩) hHeld ?_ ?_
  rotate_left
  · rintro w' ⟨t0, t1, t2, t3, t4, t5, t6⟩
    go_simp
    with_reducible rfl
  rotate_left
  · simp only [Act.put, List.setIfInBounds_toArray, List.set_cons_zero, List.set_cons_succ, i64_w, i32_w]
    rfl
  refine take_ (i := 2) (N := some 8) (v := ?_) (a' := ?_) #[true, true, true, true, false, false, false, true, false, true, false, false, false, false, false] rfl rfl (take_ofW HT_.out HW_.out (by kernel_rfl)) (fun _ _ _ h => h) (Or.inl ⟨by rfl, ?_⟩) hHeld ?_ ?_
  rotate_left
  · rintro w' ⟨t0, t1, t2, t3, t4, t5, t6⟩
    go_simp
    with_reducible rfl
  rotate_left
  · simp only [Act.put, List.setIfInBounds_toArray, List.set_cons_zero, List.set_cons_succ, i64_w, i32_w]
    rfl
  refine take_ (i := 4) (N := some 10) (v := ?_) (a' := ?_) #[true, true, true, true, true, false, false, true, false, true, false, false, false, false, false] rfl rfl (take_ofW HT_.out HW_.out (by kernel_rfl)) (fun _ _ _ h => h) (Or.inl ⟨by rfl, ?_⟩) hHeld ?_ ?_
  rotate_left
  · rintro w' ⟨t0, t1, t2, t3, t4, t5, t6⟩
    go_simp
    with_reducible rfl
  rotate_left
  · simp only [Act.put, List.setIfInBounds_toArray, List.set_cons_zero, List.set_cons_succ, i64_w, i32_w]
    rfl
  refine pure_ (i := 5) (N := some 11) (v := ?_) (a' := ?_) #[true, true, true, true, true, true, false, true, false, true, false, false, false, false, false] rfl rfl (any_of HT_.out (by kernel_rfl)) (fun _ _ _ h => h) (Or.inl ⟨by rfl, ?_⟩) ?_ ?_
  rotate_left
  · intro w'
    go_simp
    with_reducible rfl
  rotate_left
  · simp only [Act.put, List.setIfInBounds_toArray, List.set_cons_zero, List.set_cons_succ, i64_w, i32_w]
    rfl
  refine take_ (i := 6) (N := some 12) (v := ?_) (a' := ?_) #[true, true, true, true, true, true, true, true, false, true, false, false, false, false, false] rfl rfl (take_ofW HT_.out HW_.out (by kernel_rfl)) (fun _ _ _ h => h) (Or.inl ⟨by rfl, ?_⟩) hHeld ?_ ?_
  rotate_left
  · rintro w' ⟨t0, t1, t2, t3, t4, t5, t6⟩
    go_simp
    with_reducible rfl
  rotate_left
  · simp only [Act.put, List.setIfInBounds_toArray, List.set_cons_zero, List.set_cons_succ, i64_w, i32_w]
    rfl
  refine take_ (i := 8) (N := some 14) (v := ?_) (a' := ?_) #[true, true, true, true, true, true, true, true, true, true, false, false, false, false, false] rfl rfl (take_ofW HT_.out HW_.out (by kernel_rfl)) (fun _ _ _ h => h) (Or.inl ⟨by rfl, ?_⟩) hHeld ?_ ?_
  rotate_left
  · rintro w' ⟨t0, t1, t2, t3, t4, t5, t6⟩
    go_simp
    with_reducible rfl
  rotate_left
  · simp only [Act.put, List.setIfInBounds_toArray, List.set_cons_zero, List.set_cons_succ, i64_w, i32_w]
    rfl
  refine take_ (i := 10) (N := some 16) (v := ?_) (a' := ?_) #[true, true, true, true, true, true, true, true, true, true, true, false, false, false, false] rfl rfl (take_ofW HT_.out HW_.out (by kernel_rfl)) (fun _ _ _ h => h) (Or.inl ⟨by rfl, ?_⟩) hHeld ?_ ?_
  rotate_left
  · rintro w' ⟨t0, t1, t2, t3, t4, t5, t6⟩
    go_simp
    with_reducible rfl
  rotate_left
  · simp only [Act.put, List.setIfInBounds_toArray, List.set_cons_zero, List.set_cons_succ, i64_w, i32_w]
    rfl
  refine pure_ (i := 11) (N := some 17) (v := ?_) (a' := ?_) #[true, true, true, true, true, true, true, true, true, true, true, true, false, false, false] rfl rfl (any_of HT_.out (by kernel_rfl)) (fun _ _ _ h => h) (Or.inl ⟨by rfl, ?_⟩) ?_ ?_
  rotate_left
  · intro w'
    go_simp
    with_reducible rfl
  rotate_left
  · simp only [Act.put, List.setIfInBounds_toArray, List.set_cons_zero, List.set_cons_succ, i64_w, i32_w]
    rfl
  refine take_ (i := 12) (N := some 18) (v := ?_) (a' := ?_) #[true, true, true, true, true, true, true, true, true, true, true, true, true, false, false] rfl rfl (take_ofW HT_.out HW_.out (by kernel_rfl)) (fun _ _ _ h => h) (Or.inl ⟨by rfl, ?_⟩) hHeld ?_ ?_
  rotate_left
  · rintro w' ⟨t0, t1, t2, t3, t4, t5, t6⟩
    go_simp
    with_reducible rfl
  rotate_left
  · simp only [Act.put, List.setIfInBounds_toArray, List.set_cons_zero, List.set_cons_succ, i64_w, i32_w]
    rfl
  refine last_ (i := 13) (N := some 19) #[true, true, true, true, true, true, true, true, true, true, true, true, true, true, false] rfl rfl (one_of HT_.out (by kernel_rfl)) (by decide) (fun K hK => ?_)
  refine goesFn_ gg #[] (.tmp 6) #[.bool u, .bool v] egg (by rfl) rfl (by rfl) (by rfl) (by (try simp only [List.map_toArray, List.map_cons, List.map_nil]); first | done | rfl) ?_
  refine (hgood u v _).mono ?_
  rintro e W2 ⟨rfl, rfl⟩
  refine ⟨_, rfl, ?_⟩
  refine hK.out _ _ ?_
  clear hK K
  refine norm_ (a' := ?_) ?_ ?_
  rotate_left
  · show Act.put _ (some 19) _ = _
    simp only [Act.put, List.setIfInBounds_toArray, List.set_cons_zero, List.set_cons_succ, i64_w, i32_w]
    rfl
  refine pure_ (i := 14) (N := some 5) (v := ?_) (a' := ?_) #[true, true, true, true, true, true, true, true, true, true, true, true, true, true, true] rfl rfl (any_of HT_.out (by kernel_rfl)) (fun _ _ _ h => h) (Or.inl ⟨by rfl, ?_⟩) ?_ ?_
  rotate_left
  · intro w'
    go_simp
    with_reducible rfl
  rotate_left
  · simp only [Act.put, List.setIfInBounds_toArray, List.set_cons_zero, List.set_cons_succ, i64_w, i32_w]
    rfl
  refine done_ (done_of HT_.out (by kernel_rfl)) ?_
  go_wp2
  go_ret
  exact ⟨rfl, HBD.out⟩

set_option maxRecDepth 100000 in
set_option maxHeartbeats 4000000 in
theorem fpNext (A0 : Option Addr) (c0 : Nat) (l0 : List (List Int)) (A1 : Option Addr) (c1 : Nat) (l1 : List (List Int)) (Ga Gb : Nat) (x : Pr) (j : Nat) (W : World)
    (hx0 : 0 ≤ x.1) (hx1 : x.1 < l0.length) (hy0 : 0 ≤ x.2) (hy1 : x.2 < l1.length) (hj0 : j < (l0.getD x.1.toNat []).length) (hj1 : j < (l1.getD x.2.toNat []).length) (ha : W.cell? ⟨Ga, 1, none⟩ = some (.slice A0 l0.length c0)) (hb : W.cell? ⟨Gb, 1, none⟩ = some (.slice A1 l1.length c1))
    (hr0 : Kd.C (Kd.slice 3 (Kd.int .i64)) W A0 l0.length l0) (hr1 : Kd.C (Kd.slice 3 (Kd.int .i64)) W A1 l1.length l1) :
    Calls Try.prog 104 (#[.agg #[.int .i64 x.1, .int .i64 x.2], .int .i64 j] ++ #[.pointer (some ⟨Ga, 0, none⟩), .pointer (some ⟨Gb, 0, none⟩)]) W fun e W' => e = .returned (.agg #[.int .i64 (nxD l0 x.1 j), .int .i64 (nxD l1 x.2 j)]) ∧ Below W.heap.size W W' := by
  obtain ⟨a0, rfl, hcell0⟩ := cellsRows hr0 (by omega)
  obtain ⟨Aj0, cj0, hu, hrow0⟩ := hcell0 x.1.toNat (by omega)
  obtain ⟨a1, rfl, hcell1⟩ := cellsRows hr1 (by omega)
  obtain ⟨Aj1, cj1, hv, hrow1⟩ := hcell1 x.2.toNat (by omega)
  unfold nxD
  generalize l0.getD x.1.toNat [] = row0 at hj0 hu hrow0 ⊢
  generalize l1.getD x.2.toNat [] = row1 at hj1 hv hrow1 ⊢
  obtain ⟨b0, rfl, hs⟩ := Kd.at_int hrow0 (j : Int) (by omega) (by omega)
  obtain ⟨b1, rfl, ht⟩ := Kd.at_int hrow1 (j : Int) (by omega) (by omega)
  generalize rd row0 j = y0 at hs ⊢
  generalize rd row1 j = y1 at ht ⊢
  rw [Int.toNat_natCast] at hs ht
  have p1 := eq_true hx0
  have q1 := eq_true hx1
  have p2 := eq_true hy0
  have q2 := eq_true hy1
  have p3 : ((0 : Int) ≤ (j : Int)) = True := eq_true (by omega)
  have q3 : ((j : Int) < (row0.length : Int)) = True := eq_true (by omega)
  have q4 : ((j : Int) < (row1.length : Int)) = True := eq_true (by omega)
  have HB := Aside0.mk (below_alloc (below_alloc (Below.refl W.heap.size W) (Obj.cells #[Value.int IntKind.i64 x.1, Value.int IntKind.i64 x.2] 93)) (Obj.cells #[Value.int IntKind.i64 0, Value.int IntKind.i64 0] 93))
  have ka := pw_cell_below HB.out ha
  have kb := pw_cell_below HB.out hb
  have ku := pw_cell_below HB.out hu
  have kv := pw_cell_below HB.out hv
  have ks := pw_cell_below HB.out hs
  have kt := pw_cell_below HB.out ht
  clear hx0 hx1 hy0 hy1 hr0 hr1 ha hb hu hv hs ht hcell0 hcell1 hrow0 hrow1 hj0 hj1
  go_enter Try.func104, Try.ntmps104
  go_wp2
  have s0 : World.cell? ((W.alloc (Obj.cells #[Value.int IntKind.i64 x.1, Value.int IntKind.i64 x.2] 93)).alloc (Obj.cells #[Value.int IntKind.i64 0, Value.int IntKind.i64 0] 93)) ⟨W.heap.size, 0, none⟩ = some (.int .i64 x.1) := pw_cell_below (below_alloc (Below.refl _ _) _) (by simp)
  have s1 : World.cell? ((W.alloc (Obj.cells #[Value.int IntKind.i64 x.1, Value.int IntKind.i64 x.2] 93)).alloc (Obj.cells #[Value.int IntKind.i64 0, Value.int IntKind.i64 0] 93)) ⟨W.heap.size, 1, none⟩ = some (.int .i64 x.2) := pw_cell_below (below_alloc (Below.refl _ _) _) (by simp)
  have HBD := Aside0.mk (below_drew HB.out)
  refine start_ (n := 20) (S := (fun w' => w'.cell? ⟨Ga, 1, none⟩ = some (.slice (some a0) l0.length c0) ∧ w'.cell? ⟨Gb, 1, none⟩ = some (.slice (some a1) l1.length c1) ∧ w'.cell? ⟨W.heap.size, 0, none⟩ = some (.int .i64 x.1) ∧ w'.cell? ⟨W.heap.size, 1, none⟩ = some (.int .i64 x.2) ∧ w'.cell? (a0.add x.1.toNat) = some (.slice (some b0) row0.length cj0) ∧ w'.cell? (a1.add x.2.toNat) = some (.slice (some b1) row1.length cj1) ∧ w'.cell? (b0.add j) = some (.int .i64 y0) ∧ w'.cell? (b1.add j) = some (.int .i64 y1))) (ds := [19]) #[false, false, false, false, false, false, false, false, false, false, false, false, false, false, false, false, false, false, false, false] (by kernel_rfl) rfl rfl (⟨ka, kb, s0, s1, ku, kv, ks, kt⟩) (fun hHeld => ?_); refine with_tabW tabn1 bitsn1 (fun HT_ HW_ => ?_)
  refine pure_ (i := 0) (N := some 7) (v := ?_) (a' := ?_) #[true, false, false, false, false, false, false, false, false, false, false, false, false, false, false, false, false, false, false, false] rfl rfl (any_of HT_.out (by kernel_rfl)) (fun _ _ _ h => h) (Or.inl ⟨by rfl, ?_⟩) ?_ ?_
  rotate_left
  · intro w'
    go_simp
    with_reducible rfl
  rotate_left
  · simp only [Act.put, List.setIfInBounds_toArray, List.set_cons_zero, List.set_cons_succ, i64_w, i32_w]
    rfl
  refine pure_ (i := 2) (N := some 9) (v := ?_) (a' := ?_) #[true, false, true, false, false, false, false, false, false, false, false, false, false, false, false, false, false, false, false, false] rfl rfl (any_of HT_.out (by kernel_rfl)) (fun _ _ _ h => h) (Or.inl ⟨by rfl, ?_⟩) ?_ ?_
  rotate_left
  · intro w'
    go_simp
    with_reducible rfl
  rotate_left
  · simp only [Act.put, List.setIfInBounds_toArray, List.set_cons_zero, List.set_cons_succ, i64_w, i32_w]
    rfl
  refine pure_ (i := 6) (N := some 13) (v := ?_) (a' := ?_) #[true, false, true, false, false, false, true, false, false, false, false, false, false, false, false, false, false, false, false, false] rfl rfl (any_of HT_.out (by kernel_rfl)) (fun _ _ _ h => h) (Or.inl ⟨by rfl, ?_⟩) ?_ ?_
  rotate_left
  · intro w'
    go_simp
    with_reducible rfl
  rotate_left
  · simp only [Act.put, List.setIfInBounds_toArray, List.set_cons_zero, List.set_cons_succ, i64_w, i32_w]
    rfl
  refine pure_ (i := 9) (N := some 16) (v := ?_) (a' := ?_) #[true, false, true, false, false, false, true, false, false, true, false, false, false, false, false, false, false, false, false, false] rfl rfl (any_of HT_.out (by kernel_rfl)) (fun _ _ _ h => h) (Or.inl ⟨by rfl, ?_⟩) ?_ ?_
  rotate_left
  · intro w'
    go_simp
    with_reducible rfl
  rotate_left
  · simp only [Act.put, List.setIfInBounds_toArray, List.set_cons_zero, List.set_cons_succ, i64_w, i32_w]
    rfl
  refine pure_ (i := 11) (N := some 18) (v := ?_) (a' := ?_) #[true, false, true, false, false, false, true, false, false, true, false, true, false, false, false, false, false, false, false, false] rfl rfl (any_of HT_.out (by kernel_rfl)) (fun _ _ _ h => h) (Or.inl ⟨by rfl, ?_⟩) ?_ ?_
  rotate_left
  · intro w'
    go_simp
    with_reducible rfl
  rotate_left
  · simp only [Act.put, List.setIfInBounds_toArray, List.set_cons_zero, List.set_cons_succ, i64_w, i32_w]
    rfl
  refine pure_ (i := 15) (N := some 22) (v := ?_) (a' := ?_) #[true, false, true, false, false, false, true, false, false, true, false, true, false, false, false, true, false, false, false, false] rfl rfl (any_of HT_.out (by kernel_rfl)) (fun _ _ _ h => h) (Or.inl ⟨by rfl, ?_⟩) ?_ ?_
  rotate_left
  · intro w'
    go_simp
    with_reducible rfl
  rotate_left
  · simp only [Act.put, List.setIfInBounds_toArray, List.set_cons_zero, List.set_cons_succ, i64_w, i32_w]
    rfl
  refine take_ (i := 1) (N := some 8) (v := ?_) (a' := ?_) #[true, true, true, false, false, false, true, false, false, true, false, true, false, false, false, true, false, false, false, false] rfl rfl (take_ofW HT_.out HW_.out (by kernel_rfl)) (fun _ _ _ h => h) (Or.inl ⟨by rfl, ?_⟩) hHeld ?_ ?_
  rotate_left
  · rintro w' ⟨t0, t1, t2, t3, t4, t5, t6, t7⟩
    go_simp
    with_reducible rfl
  rotate_left
  · simp only [Act.put, List.setIfInBounds_toArray, List.set_cons_zero, List.set_cons_succ, i64_w, i32_w]
    rfl
  refine take_ (i := 3) (N := some 10) (v := ?_) (a' := ?_) #[true, true, true, true, false, false, true, false, false, true, false, true, false, false, false, true, false, false, false, false] rfl rfl (take_ofW HT_.out HW_.out (by kernel_rfl)) (fun _ _ _ h => h) (Or.inl ⟨by rfl, ?_⟩) hHeld ?_ ?_
  rotate_left
  · rintro w' ⟨t0, t1, t2, t3, t4, t5, t6, t7⟩
    go_simp
    with_reducible rfl
  rotate_left
  · simp only [Act.put, List.setIfInBounds_toArray, List.set_cons_zero, List.set_cons_succ, i64_w, i32_w]
    rfl
  refine pure_ (i := 4) (N := some 11) (v := ?_) (a' := ?_) #[true, true, true, true, true, false, true, false, false, true, false, true, false, false, false, true, false, false, false, false] rfl rfl (any_of HT_.out (by kernel_rfl)) (fun _ _ _ h => h) (Or.inl ⟨by rfl, ?_⟩) ?_ ?_
  rotate_left
  · intro w'
    go_simp
    with_reducible rfl
  rotate_left
  · simp only [Act.put, List.setIfInBounds_toArray, List.set_cons_zero, List.set_cons_succ, i64_w, i32_w]
    rfl
  refine take_ (i := 5) (N := some 12) (v := ?_) (a' := ?_) #[true, true, true, true, true, true, true, false, false, true, false, true, false, false, false, true, false, false, false, false] rfl rfl (take_ofW HT_.out HW_.out (by kernel_rfl)) (fun _ _ _ h => h) (Or.inl ⟨by rfl, ?_⟩) hHeld ?_ ?_
  rotate_left
  · rintro w' ⟨t0, t1, t2, t3, t4, t5, t6, t7⟩
    go_simp
    with_reducible rfl
  rotate_left
  · simp only [Act.put, List.setIfInBounds_toArray, List.set_cons_zero, List.set_cons_succ, i64_w, i32_w]
    rfl
  refine pure_ (i := 7) (N := some 14) (v := ?_) (a' := ?_) #[true, true, true, true, true, true, true, true, false, true, false, true, false, false, false, true, false, false, false, false] rfl rfl (any_of HT_.out (by kernel_rfl)) (fun _ _ _ h => h) (Or.inl ⟨by rfl, ?_⟩) ?_ ?_
  rotate_left
  · intro w'
    go_simp
    with_reducible rfl
  rotate_left
  · simp only [Act.put, List.setIfInBounds_toArray, List.set_cons_zero, List.set_cons_succ, i64_w, i32_w]
    rfl
  refine take_ (i := 8) (N := some 15) (v := ?_) (a' := ?_) #[true, true, true, true, true, true, true, true, true, true, false, true, false, false, false, true, false, false, false, false] rfl rfl (take_ofW HT_.out HW_.out (by kernel_rfl)) (fun _ _ _ h => h) (Or.inl ⟨by rfl, ?_⟩) hHeld ?_ ?_
  rotate_left
  · rintro w' ⟨t0, t1, t2, t3, t4, t5, t6, t7⟩
    go_simp
    with_reducible rfl
  rotate_left
  · simp only [Act.put, List.setIfInBounds_toArray, List.set_cons_zero, List.set_cons_succ, i64_w, i32_w]
    rfl
  refine take_ (i := 10) (N := some 17) (v := ?_) (a' := ?_) #[true, true, true, true, true, true, true, true, true, true, true, true, false, false, false, true, false, false, false, false] rfl rfl (take_ofW HT_.out HW_.out (by kernel_rfl)) (fun _ _ _ h => h) (Or.inl ⟨by rfl, ?_⟩) hHeld ?_ ?_
  rotate_left
  · rintro w' ⟨t0, t1, t2, t3, t4, t5, t6, t7⟩
    go_simp
    with_reducible rfl
  rotate_left
  · simp only [Act.put, List.setIfInBounds_toArray, List.set_cons_zero, List.set_cons_succ, i64_w, i32_w]
    rfl
  refine take_ (i := 12) (N := some 19) (v := ?_) (a' := ?_) #[true, true, true, true, true, true, true, true, true, true, true, true, true, false, false, true, false, false, false, false] rfl rfl (take_ofW HT_.out HW_.out (by kernel_rfl)) (fun _ _ _ h => h) (Or.inl ⟨by rfl, ?_⟩) hHeld ?_ ?_
  rotate_left
  · rintro w' ⟨t0, t1, t2, t3, t4, t5, t6, t7⟩
    go_simp
    with_reducible rfl
  rotate_left
  · simp only [Act.put, List.setIfInBounds_toArray, List.set_cons_zero, List.set_cons_succ, i64_w, i32_w]
    rfl
  refine pure_ (i := 13) (N := some 20) (v := ?_) (a' := ?_) #[true, true, true, true, true, true, true, true, true, true, true, true, true, true, false, true, false, false, false, false] rfl rfl (any_of HT_.out (by kernel_rfl)) (fun _ _ _ h => h) (Or.inl ⟨by rfl, ?_⟩) ?_ ?_
  rotate_left
  · intro w'
    go_simp
    with_reducible rfl
  rotate_left
  · simp only [Act.put, List.setIfInBounds_toArray, List.set_cons_zero, List.set_cons_succ, i64_w, i32_w]
    rfl
  refine take_ (i := 14) (N := some 21) (v := ?_) (a' := ?_) #[true, true, true, true, true, true, true, true, true, true, true, true, true, true, true, true, false, false, false, false] rfl rfl (take_ofW HT_.out HW_.out (by kernel_rfl)) (fun _ _ _ h => h) (Or.inl ⟨by rfl, ?_⟩) hHeld ?_ ?_
  rotate_left
  · rintro w' ⟨t0, t1, t2, t3, t4, t5, t6, t7⟩
    go_simp
    with_reducible rfl
  rotate_left
  · simp only [Act.put, List.setIfInBounds_toArray, List.set_cons_zero, List.set_cons_succ, i64_w, i32_w]
    rfl
  refine pure_ (i := 16) (N := some 23) (v := ?_) (a' := ?_) #[true, true, true, true, true, true, true, true, true, true, true, true, true, true, true, true, true, false, false, false] rfl rfl (any_of HT_.out (by kernel_rfl)) (fun _ _ _ h => h) (Or.inl ⟨by rfl, ?_⟩) ?_ ?_
  rotate_left
  · intro w'
    go_simp
    with_reducible rfl
  rotate_left
  · simp only [Act.put, List.setIfInBounds_toArray, List.set_cons_zero, List.set_cons_succ, i64_w, i32_w]
    rfl
  refine take_ (i := 17) (N := some 24) (v := ?_) (a' := ?_) #[true, true, true, true, true, true, true, true, true, true, true, true, true, true, true, true, true, true, false, false] rfl rfl (take_ofW HT_.out HW_.out (by kernel_rfl)) (fun _ _ _ h => h) (Or.inl ⟨by rfl, ?_⟩) hHeld ?_ ?_
  rotate_left
  · rintro w' ⟨t0, t1, t2, t3, t4, t5, t6, t7⟩
    go_simp
    with_reducible rfl
  rotate_left
  · simp only [Act.put, List.setIfInBounds_toArray, List.set_cons_zero, List.set_cons_succ, i64_w, i32_w]
    rfl
  refine pure_ (i := 18) (N := some 25) (v := ?_) (a' := ?_) #[true, true, true, true, true, true, true, true, true, true, true, true, true, true, true, true, true, true, true, false] rfl rfl (any_of HT_.out (by kernel_rfl)) (fun _ _ _ h => h) (Or.inl ⟨by rfl, ?_⟩) ?_ ?_
  rotate_left
  · intro w'
    go_simp
    with_reducible rfl
  rotate_left
  · simp only [Act.put, List.setIfInBounds_toArray, List.set_cons_zero, List.set_cons_succ, i64_w, i32_w]
    rfl
  refine last_ (i := 19) (N := none) #[true, true, true, true, true, true, true, true, true, true, true, true, true, true, true, true, true, true, true, true] rfl rfl (one_of HT_.out (by kernel_rfl)) (by decide) (fun K hK => ?_)
  refine skip_ (w1 := ?_) (by rfl) rfl ?_ ?_
  rotate_left
  · go_simp
    rfl
  refine hK.out _ _ ?_
  clear hK K
  refine done_ (done_of HT_.out (by kernel_rfl)) ?_
  clear HT_ HW_ hHeld ka kb ku kv ks kt s0 s1 HBD
  go_wp2
  refine bodyPost_ret (v := .agg #[.int .i64 y0, .int .i64 y1]) (by simp [results, Try.results104, go_sem]) rfl ⟨rfl, ?_⟩
  exact below_drew (below_alloc (below_alloc (Below.refl _ _) _) _)
def nxP (l1 m1 : List (List Int)) (x : Pr) (j : Nat) : Pr := (nxD l1 x.1 j, nxD m1 x.2 j)
def gdP (good : Bool → Bool → Bool) (l0 m0 : List Bool) (x : Pr) : Bool := good (rdOf false l0 x.1) (rdOf false m0 x.2)
/-- What firstPair answers. -/
def fpR (good : Bool → Bool → Bool) (l0 : List Bool) (l1 : List (List Int)) (m0 : List Bool) (m1 : List (List Int)) : ByteArray × Bool :=
  if validD l0 l1 = true ∧ validD m0 m1 = true then bfs (gdP good l0 m0) (nxP l1 m1) 1602 ([((0 : Int), (0 : Int))], [(⟨#[]⟩ : ByteArray)]) 0 else (⟨#[]⟩, false)
theorem card_pairs (n m : Nat) (s : List Pr) (hn : s.Nodup) (h : ∀ x ∈ s, (0 ≤ x.1 ∧ x.1 < n) ∧ 0 ≤ x.2 ∧ x.2 < m) : s.length ≤ n * m := by
  have h1 := nodup_le s ((List.range (n * m)).map fun (i : Nat) => (((i / m : Nat) : Int), ((i % m : Nat) : Int))) hn (fun x hx => by
    obtain ⟨⟨a1, a2⟩, b1, b2⟩ := h x hx
    obtain ⟨p, hp⟩ := Int.eq_ofNat_of_zero_le a1
    obtain ⟨q, hq⟩ := Int.eq_ofNat_of_zero_le b1
    have hq2 : q < m := by omega
    have hp2 : p < n := by omega
    refine List.mem_map.mpr ⟨p * m + q, List.mem_range.mpr ?_, ?_⟩
    · calc p * m + q < p * m + m := by omega
        _ = (p + 1) * m := by rw [Nat.succ_mul]
        _ ≤ n * m := Nat.mul_le_mul_right m hp2
    · have e1 : (p * m + q) / m = p := by rw [Nat.mul_comm, Nat.mul_add_div (by omega), Nat.div_eq_of_lt hq2, Nat.add_zero]
      have e2 : (p * m + q) % m = q := by rw [Nat.mul_comm, Nat.mul_add_mod, Nat.mod_eq_of_lt hq2]
      rw [e1, e2]
      exact Prod.ext hp.symm hq.symm)
  simpa using h1
set_option maxHeartbeats 800000 in
set_option maxRecDepth 100000 in
theorem fpCalls (A0 : Option Addr) (c0 : Nat) (l0 : List Bool) (A1 : Option Addr) (c1 : Nat) (l1 : List (List Int)) (B0 : Option Addr) (d0 : Nat) (m0 : List Bool) (B1 : Option Addr) (d1 : Nat) (m1 : List (List Int)) (gg : Nat) (good : Bool → Bool → Bool) (egg : ∀ args w, (callFunc gg args).run Try.prog w = .ok (.enter gg args) w)
    (hgood : ∀ (p q : Bool) (W : World), Calls Try.prog gg #[.bool p, .bool q] W fun e W' => e = .returned (.bool (good p q)) ∧ W = W') (w : World) (hr0 : Kd.C Kd.bool w A0 l0.length l0) (hr1 : Kd.C (Kd.slice 3 (Kd.int .i64)) w A1 l1.length l1) (hs0 : Kd.C Kd.bool w B0 m0.length m0) (hs1 : Kd.C (Kd.slice 3 (Kd.int .i64)) w B1 m1.length m1) :
    Calls Try.prog 75 #[.agg #[.slice A0 l0.length c0, .slice A1 l1.length c1], .agg #[.slice B0 m0.length d0, .slice B1 m1.length d1], .func (.func gg) #[] #[]] w fun e w' => e = .returned (.tuple #[.string (fpR good l0 l1 m0 m1).1, .bool (fpR good l0 l1 m0 m1).2]) ∧ Below w.heap.size w w' := by
  have hu := Try.underlying28
  have HV := Aside0.mk (fun W (hb : Below w.heap.size w W) => validCalls A0 c0 l0 A1 c1 l1 W (Kd.C_below hr0 hb) (Kd.C_below hr1 hb))
  have HV2 := Aside0.mk (fun W (hb : Below w.heap.size w W) => validCalls B0 d0 m0 B1 d1 m1 W (Kd.C_below hs0 hb) (Kd.C_below hs1 hb))
  have HB0 := Aside0.mk (below_alloc (below_alloc (below_alloc (Below.refl w.heap.size w) (Obj.cells #[.slice A0 l0.length c0, .slice A1 l1.length c1] 28)) (Obj.cells #[.slice B0 m0.length d0, .slice B1 m1.length d1] 28)) (Obj.cells #[.func (.func gg) #[] #[]] 72))
  have KA0 : Aside0 (World.cell? (((w.alloc (Obj.cells #[.slice A0 l0.length c0, .slice A1 l1.length c1] 28)).alloc (Obj.cells #[.slice B0 m0.length d0, .slice B1 m1.length d1] 28)).alloc (Obj.cells #[.func (.func gg) #[] #[]] 72)) ⟨w.heap.size, 0, none⟩ = some (.slice A0 l0.length c0)) := ⟨pw_cell_below (below_alloc (below_alloc (Below.refl _ _) _) _) (by simp)⟩
  have KA1 : Aside0 (World.cell? (((w.alloc (Obj.cells #[.slice A0 l0.length c0, .slice A1 l1.length c1] 28)).alloc (Obj.cells #[.slice B0 m0.length d0, .slice B1 m1.length d1] 28)).alloc (Obj.cells #[.func (.func gg) #[] #[]] 72)) ⟨w.heap.size, 1, none⟩ = some (.slice A1 l1.length c1)) := ⟨pw_cell_below (below_alloc (below_alloc (Below.refl _ _) _) _) (by simp)⟩
  have KB0 : Aside0 (World.cell? (((w.alloc (Obj.cells #[.slice A0 l0.length c0, .slice A1 l1.length c1] 28)).alloc (Obj.cells #[.slice B0 m0.length d0, .slice B1 m1.length d1] 28)).alloc (Obj.cells #[.func (.func gg) #[] #[]] 72)) ⟨w.heap.size + 1, 0, none⟩ = some (.slice B0 m0.length d0)) := ⟨pw_cell_below (below_alloc (Below.refl _ _) _) (by simp)⟩
  have KB1 : Aside0 (World.cell? (((w.alloc (Obj.cells #[.slice A0 l0.length c0, .slice A1 l1.length c1] 28)).alloc (Obj.cells #[.slice B0 m0.length d0, .slice B1 m1.length d1] 28)).alloc (Obj.cells #[.func (.func gg) #[] #[]] 72)) ⟨w.heap.size + 1, 1, none⟩ = some (.slice B1 m1.length d1)) := ⟨pw_cell_below (below_alloc (Below.refl _ _) _) (by simp)⟩
  have KG0 : Aside0 (World.cell? (((w.alloc (Obj.cells #[.slice A0 l0.length c0, .slice A1 l1.length c1] 28)).alloc (Obj.cells #[.slice B0 m0.length d0, .slice B1 m1.length d1] 28)).alloc (Obj.cells #[.func (.func gg) #[] #[]] 72)) ⟨w.heap.size + 1 + 1, 0, none⟩ = some (.func (.func gg) #[] #[])) := ⟨by rw [show w.heap.size + 1 + 1 = Array.size (World.heap ((w.alloc (Obj.cells #[.slice A0 l0.length c0, .slice A1 l1.length c1] 28)).alloc (Obj.cells #[.slice B0 m0.length d0, .slice B1 m1.length d1] 28))) from by simp] <;> first | exact (blk_cell (blk_new _ _) 0).trans rfl | skip⟩
  cases hv : validD l0 l1 with
  | false =>
    rw [hv] at HV
    have e : fpR good l0 l1 m0 m1 = (⟨#[]⟩, false) := by unfold fpR; rw [hv]; rfl
    rw [e]
    clear hv e hr0 hr1 hs0 hs1 HV2 hgood egg
    go_enter Try.func75, Try.ntmps75
    go_wp2_with (go_at_call 18; refine (HV.out _ (by exact HB0.out)).mono ?_; rintro e w' ⟨rfl, hb⟩; have HB := Aside0.mk hb; clear hb)
    go_ret2
    exact ⟨rfl, below_then HB0.out HB0.out.size HB.out⟩
  | true =>
    rw [hv] at HV
    cases hv2 : validD m0 m1 with
    | false =>
      rw [hv2] at HV2
      have e : fpR good l0 l1 m0 m1 = (⟨#[]⟩, false) := by unfold fpR; rw [if_neg]; rintro ⟨_, h⟩; rw [hv2] at h; cases h
      rw [e]
      clear hv hv2 e hr0 hr1 hs0 hs1 hgood egg
      go_enter Try.func75, Try.ntmps75
      go_wp2_with (first | (go_at_call 18; (with_reducible refine (HV.out _ ?hq0).mono ?_); (case hq0 => exact HB0.out); rintro e w1 ⟨rfl, hb⟩; have ha0 := pw_cell_below hb KB0.out; have ha1 := pw_cell_below hb KB1.out; have HB := Aside0.mk (below_then HB0.out HB0.out.size hb); clear hb) | (go_at_call 18; (with_reducible refine (HV2.out _ ?hq1).mono ?_); (case hq1 => exact HB.out); rintro e w2 ⟨rfl, hb⟩; have HB2 := Aside0.mk hb; clear hb))
      go_ret2
      exact ⟨rfl, below_then HB.out HB.out.size HB2.out⟩
    | true =>
      rw [hv2] at HV2
      obtain ⟨n1, n2, n3, n4⟩ := validD_facts hv
      obtain ⟨k1, k2, k3, k4⟩ := validD_facts hv2
      have e : fpR good l0 l1 m0 m1 = bfs (gdP good l0 m0) (nxP l1 m1) 1602 ([((0 : Int), (0 : Int))], [(⟨#[]⟩ : ByteArray)]) 0 := by unfold fpR; rw [if_pos ⟨hv, hv2⟩]
      rw [e]
      have hrow : ∀ x : Int, 0 ≤ x ∧ x < l0.length → (l1.getD x.toNat []).length = 3 ∧ ∀ q ∈ l1.getD x.toNat [], 0 ≤ q ∧ q < l0.length := fun x hx => by
        have hlt : x.toNat < l1.length := by omega
        rw [List.getD_eq_getElem?_getD, List.getElem?_eq_getElem hlt]
        exact n4 _ (List.getElem_mem hlt)
      have hrow2 : ∀ x : Int, 0 ≤ x ∧ x < m0.length → (m1.getD x.toNat []).length = 3 ∧ ∀ q ∈ m1.getD x.toNat [], 0 ≤ q ∧ q < m0.length := fun x hx => by
        have hlt : x.toNat < m1.length := by omega
        rw [List.getD_eq_getElem?_getD, List.getElem?_eq_getElem hlt]
        exact k4 _ (List.getElem_mem hlt)
      have HFW := Aside0.mk (fun (Ga Gb G : Nat) (W : World) (hb : Below w.heap.size w W) (h0 : W.cell? ⟨Ga, 0, none⟩ = some (.slice A0 l0.length c0)) (h1 : W.cell? ⟨Ga, 1, none⟩ = some (.slice A1 l1.length c1)) (h2 : W.cell? ⟨Gb, 0, none⟩ = some (.slice B0 m0.length d0)) (h3 : W.cell? ⟨Gb, 1, none⟩ = some (.slice B1 m1.length d1)) (h4 : W.cell? ⟨G, 0, none⟩ = some (.func (.func gg) #[] #[])) =>
        firstWord_pair (dom := fun x => (0 ≤ x.1 ∧ x.1 < (l0.length : Int)) ∧ 0 ≤ x.2 ∧ x.2 < (m0.length : Int)) 1600 (by omega) (gdP good l0 m0) (nxP l1 m1) ((0 : Int), (0 : Int)) 103 104 #[.pointer (some ⟨G, 0, none⟩), .pointer (some ⟨Ga, 0, none⟩), .pointer (some ⟨Gb, 0, none⟩)] #[.pointer (some ⟨Ga, 0, none⟩), .pointer (some ⟨Gb, 0, none⟩)] (enters_of Try.func103 (by kernel_rfl) rfl) (enters_of Try.func104 (by kernel_rfl) rfl) W
          ⟨⟨by show (0 : Int) ≤ 0; omega, by show (0 : Int) < _; omega⟩, by show (0 : Int) ≤ 0; omega, by show (0 : Int) < _; omega⟩ (fun x j hx hj => by
            obtain ⟨r1, r2⟩ := hrow x.1 hx.1
            obtain ⟨r3, r4⟩ := hrow2 x.2 hx.2
            refine ⟨?_, ?_⟩
            · show 0 ≤ nxD l1 x.1 j ∧ nxD l1 x.1 j < _
              unfold nxD
              rw [rd_get _ _ (by omega)]
              exact r2 _ (List.getElem_mem _)
            · show 0 ≤ nxD m1 x.2 j ∧ nxD m1 x.2 j < _
              unfold nxD
              rw [rd_get _ _ (by omega)]
              exact r4 _ (List.getElem_mem _)) (fun x hx => by
            obtain ⟨⟨x1, x2⟩, x3, x4⟩ := hx
            exact ⟨by simp [wfI, Lit.wf, IntKind.min, IntKind.max, IntKind.signed, IntKind.bits]; omega, by simp [wfI, Lit.wf, IntKind.min, IntKind.max, IntKind.signed, IntKind.bits]; omega⟩) (fun s hn hs => Nat.le_trans (card_pairs l0.length m0.length s hn hs) (Nat.le_trans (Nat.mul_le_mul n2 k2) (by omega)))
          (fun x hx W' hb' => fpGood A0 c0 l0 B0 d0 m0 G Ga Gb gg good egg hgood x W' hx.1.1 hx.1.2 hx.2.1 hx.2.2 (pw_cell_below hb' h4) (pw_cell_below hb' h0) (pw_cell_below hb' h2) (Kd.C_below (Kd.C_below hr0 hb) hb') (Kd.C_below (Kd.C_below hs0 hb) hb'))
          (fun x j hx hj W' hb' => fpNext A1 c1 l1 B1 d1 m1 Ga Gb x j W' hx.1.1 (by have := hx.1.2; omega) hx.2.1 (by have := hx.2.2; omega) (by rw [(hrow x.1 hx.1).1]; exact hj) (by rw [(hrow2 x.2 hx.2).1]; exact hj) (pw_cell_below hb' h1) (pw_cell_below hb' h3) (Kd.C_below (Kd.C_below hr1 hb) hb') (Kd.C_below (Kd.C_below hs1 hb) hb')))
      clear hv hv2 e hr0 hr1 hs0 hs1 n1 n2 n3 n4 k1 k2 k3 k4 hrow hrow2 hgood egg
      go_enter Try.func75, Try.ntmps75
      go_wp2_with (first | (go_at_call 18; (with_reducible refine (HV.out _ ?hq0).mono ?_); (case hq0 => exact HB0.out); rintro e w1 ⟨rfl, hb⟩; have ha0 := pw_cell_below hb KB0.out; have ha1 := pw_cell_below hb KB1.out; have hz0 := Aside0.mk (pw_cell_below hb KA0.out); have hz1 := Aside0.mk (pw_cell_below hb KA1.out); have hz2 := Aside0.mk (pw_cell_below hb KG0.out); have HB := Aside0.mk (below_then HB0.out HB0.out.size hb); clear hb) | (go_at_call 18; (with_reducible refine (HV2.out _ ?hq1).mono ?_); (case hq1 => exact HB.out); rintro e w2 ⟨rfl, hb⟩; have HA0 := Aside0.mk (pw_cell_below hb ha0); have HA1 := Aside0.mk (pw_cell_below hb ha1); have HZ0 := Aside0.mk (pw_cell_below hb hz0.out); have HZ1 := Aside0.mk (pw_cell_below hb hz1.out); have HZ2 := Aside0.mk (pw_cell_below hb hz2.out); have HB2 := Aside0.mk (below_then HB.out HB.out.size hb); clear hb) | (go_at_call 102; refine (HFW.out w.heap.size (w.heap.size + 1) (w.heap.size + 1 + 1) _ HB2.out HZ0.out HZ1.out HA0.out HA1.out HZ2.out).mono ?_; rintro e w3 ⟨rfl, hb⟩; have HB3 := Aside0.mk hb; clear hb))
      go_ret2
      exact ⟨rfl, below_then HB2.out HB2.out.size HB3.out⟩
theorem dwGood (p q : Bool) (W : World) : Calls Try.prog 76 #[.bool p, .bool q] W fun e W' => e = .returned (.bool (p != q)) ∧ W = W' := by
  cases p <;> cases q
  all_goals
    go_enter Try.func76, Try.ntmps76
    go_wp2
    go_ret
    exact ⟨rfl, rfl⟩
theorem inGood (p q : Bool) (W : World) : Calls Try.prog 77 #[.bool p, .bool q] W fun e W' => e = .returned (.bool (p && !q)) ∧ W = W' := by
  cases p <;> cases q
  all_goals
    go_enter Try.func77, Try.ntmps77
    go_wp2
    go_ret
    exact ⟨rfl, rfl⟩
set_option maxHeartbeats 800000 in
theorem dwCalls (A0 : Option Addr) (c0 : Nat) (l0 : List Bool) (A1 : Option Addr) (c1 : Nat) (l1 : List (List Int)) (B0 : Option Addr) (d0 : Nat) (m0 : List Bool) (B1 : Option Addr) (d1 : Nat) (m1 : List (List Int)) (w : World) (hr0 : Kd.C Kd.bool w A0 l0.length l0) (hr1 : Kd.C (Kd.slice 3 (Kd.int .i64)) w A1 l1.length l1) (hs0 : Kd.C Kd.bool w B0 m0.length m0) (hs1 : Kd.C (Kd.slice 3 (Kd.int .i64)) w B1 m1.length m1) :
    Calls Try.prog 31 #[.agg #[.slice A0 l0.length c0, .slice A1 l1.length c1], .agg #[.slice B0 m0.length d0, .slice B1 m1.length d1]] w fun e w' => e = .returned (.tuple #[.string (fpR (fun p q => p != q) l0 l1 m0 m1).1, .bool (fpR (fun p q => p != q) l0 l1 m0 m1).2]) ∧ Below w.heap.size w w' := by
  have hu := Try.underlying28
  have HF := Aside0.mk (fun W (hb : Below w.heap.size w W) => fpCalls A0 c0 l0 A1 c1 l1 B0 d0 m0 B1 d1 m1 76 (fun p q => p != q) (enters_of Try.func76 (by kernel_rfl) rfl) dwGood W (Kd.C_below hr0 hb) (Kd.C_below hr1 hb) (Kd.C_below hs0 hb) (Kd.C_below hs1 hb))
  have HB0 := Aside0.mk (below_alloc (below_alloc (Below.refl w.heap.size w) (Obj.cells #[.slice A0 l0.length c0, .slice A1 l1.length c1] 28)) (Obj.cells #[.slice B0 m0.length d0, .slice B1 m1.length d1] 28))
  clear hr0 hr1 hs0 hs1
  generalize fpR (fun p q => p != q) l0 l1 m0 m1 = r at HF ⊢
  go_enter Try.func31, Try.ntmps31
  go_wp2_with (go_at_call 75; refine (HF.out _ (by exact HB0.out)).mono ?_; rintro e w' ⟨rfl, hb⟩; have HB := Aside0.mk hb; clear hb)
  go_ret2
  exact ⟨rfl, below_then HB0.out HB0.out.size HB.out⟩
/-- What IsIncluded answers. -/
def inR (l0 : List Bool) (l1 : List (List Int)) (m0 : List Bool) (m1 : List (List Int)) : Bool := (validD l0 l1 && validD m0 m1) && !(fpR (fun p q => p && !q) l0 l1 m0 m1).2
set_option maxHeartbeats 1600000 in
theorem inCalls (A0 : Option Addr) (c0 : Nat) (l0 : List Bool) (A1 : Option Addr) (c1 : Nat) (l1 : List (List Int)) (B0 : Option Addr) (d0 : Nat) (m0 : List Bool) (B1 : Option Addr) (d1 : Nat) (m1 : List (List Int)) (w : World) (hr0 : Kd.C Kd.bool w A0 l0.length l0) (hr1 : Kd.C (Kd.slice 3 (Kd.int .i64)) w A1 l1.length l1) (hs0 : Kd.C Kd.bool w B0 m0.length m0) (hs1 : Kd.C (Kd.slice 3 (Kd.int .i64)) w B1 m1.length m1) :
    Calls Try.prog 33 #[.agg #[.slice A0 l0.length c0, .slice A1 l1.length c1], .agg #[.slice B0 m0.length d0, .slice B1 m1.length d1]] w fun e w' => e = .returned (.bool (inR l0 l1 m0 m1)) ∧ Below w.heap.size w w' := by
  have hu := Try.underlying28
  have HF := Aside0.mk (fun W (hb : Below w.heap.size w W) => fpCalls A0 c0 l0 A1 c1 l1 B0 d0 m0 B1 d1 m1 77 (fun p q => p && !q) (enters_of Try.func77 (by kernel_rfl) rfl) inGood W (Kd.C_below hr0 hb) (Kd.C_below hr1 hb) (Kd.C_below hs0 hb) (Kd.C_below hs1 hb))
  have HV := Aside0.mk (fun W (hb : Below w.heap.size w W) => validCalls A0 c0 l0 A1 c1 l1 W (Kd.C_below hr0 hb) (Kd.C_below hr1 hb))
  have HV2 := Aside0.mk (fun W (hb : Below w.heap.size w W) => validCalls B0 d0 m0 B1 d1 m1 W (Kd.C_below hs0 hb) (Kd.C_below hs1 hb))
  have HB0 := Aside0.mk (below_alloc (below_alloc (Below.refl w.heap.size w) (Obj.cells #[.slice A0 l0.length c0, .slice A1 l1.length c1] 28)) (Obj.cells #[.slice B0 m0.length d0, .slice B1 m1.length d1] 28))
  have KA0 : Aside0 (World.cell? ((w.alloc (Obj.cells #[.slice A0 l0.length c0, .slice A1 l1.length c1] 28)).alloc (Obj.cells #[.slice B0 m0.length d0, .slice B1 m1.length d1] 28)) ⟨w.heap.size, 0, none⟩ = some (.slice A0 l0.length c0)) := ⟨pw_cell_below (below_alloc (Below.refl _ _) _) (by simp)⟩
  have KA1 : Aside0 (World.cell? ((w.alloc (Obj.cells #[.slice A0 l0.length c0, .slice A1 l1.length c1] 28)).alloc (Obj.cells #[.slice B0 m0.length d0, .slice B1 m1.length d1] 28)) ⟨w.heap.size, 1, none⟩ = some (.slice A1 l1.length c1)) := ⟨pw_cell_below (below_alloc (Below.refl _ _) _) (by simp)⟩
  have KB0 : Aside0 (World.cell? ((w.alloc (Obj.cells #[.slice A0 l0.length c0, .slice A1 l1.length c1] 28)).alloc (Obj.cells #[.slice B0 m0.length d0, .slice B1 m1.length d1] 28)) ⟨w.heap.size + 1, 0, none⟩ = some (.slice B0 m0.length d0)) := ⟨by simp⟩
  have KB1 : Aside0 (World.cell? ((w.alloc (Obj.cells #[.slice A0 l0.length c0, .slice A1 l1.length c1] 28)).alloc (Obj.cells #[.slice B0 m0.length d0, .slice B1 m1.length d1] 28)) ⟨w.heap.size + 1, 1, none⟩ = some (.slice B1 m1.length d1)) := ⟨by simp⟩
  clear hr0 hr1 hs0 hs1
  unfold inR
  generalize fpR (fun p q => p && !q) l0 l1 m0 m1 = r at HF ⊢
  obtain ⟨r1, r2⟩ := r
  generalize validD l0 l1 = v1 at HV ⊢
  generalize validD m0 m1 = v2 at HV2 ⊢
  cases v1 <;> cases v2 <;> cases r2
  all_goals
    go_enter Try.func33, Try.ntmps33
    go_wp2_with (first | (go_at_call 75; refine (HF.out _ (by exact HB0.out)).mono ?_; rintro e w1 ⟨rfl, hb⟩; have ha0 := pw_cell_below hb KA0.out; have ha1 := pw_cell_below hb KA1.out; have hb0 := pw_cell_below hb KB0.out; have hb1 := pw_cell_below hb KB1.out; have HB := Aside0.mk (below_then HB0.out HB0.out.size hb); clear hb) | (go_at_call 18; (with_reducible refine (HV.out _ ?hq0).mono ?_); (case hq0 => exact HB.out); rintro e w2 ⟨rfl, hb⟩; have hc0 := pw_cell_below hb hb0; have hc1 := pw_cell_below hb hb1; have HB2 := Aside0.mk (below_then HB.out HB.out.size hb); clear hb) | (go_at_call 18; (with_reducible refine (HV2.out _ ?hq1).mono ?_); (case hq1 => exact HB2.out); rintro e w3 ⟨rfl, hb⟩; have HB3 := Aside0.mk (below_then HB2.out HB2.out.size hb); clear hb))
    go_ret
    first | exact ⟨rfl, HB3.out⟩ | exact ⟨rfl, HB2.out⟩
end Go.Proofs.Ytoknogcefajfiaa.Wk
