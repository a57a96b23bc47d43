/- Texts of the proof of FnExactMatchRegex, put together. No condition. -/
import Derived.Shelf.Abstract
import Derived.Lib.Walk
import Derived.Test.YtldgkgdgcfllmaaQFnExactMatchRegex3
import Derived.Test.YtldgkgdgcfllmaaQFnExactMatchRegex2
section
namespace Go.Proofs.Ytldgkgdgcfllmaa.Rg
open Go.RowKit Go.Shelf Go.Proofs.Ytldgkgdgcfllmaa.P Go.Proofs.Ytldgkgdgcfllmaa.Pl Go.Proofs.YtldgkgdgcfllmaaW.PrintWords Go.Proofs.YtldgkgdgcfllmaaW.PrintLast Go.Proofs.YtldgkgdgcfllmaaW.PrintMore
set_option linter.unusedVariables false
set_option linter.unusedSimpArgs false
def bitv (b : Bool) : Int := if b then 2 else 1
def enc8 (t : List Int) : Array Value := (t.map (fun x => Value.int .i8 x)).toArray
theorem enc8_get {t : List Int} {c : Nat} (h : c < t.length) : (enc8 t)[c]? = some (.int .i8 (t.getD c 0)) := by
  unfold enc8
  simp [List.getD_eq_getElem?_getD, h]
theorem enc8_set (t : List Int) (c : Nat) (x : Int) : (enc8 t).setIfInBounds c (.int .i8 x) = enc8 (t.set c x) := by
  unfold enc8
  simp [List.map_set]
structure Mem (w0 W : World) (gm g : Nat) (s : ByteArray) (N : Nat) (t : List Int) : Prop where
  box : W.heap[gm]? = some (.cells #[.string s, .int .i64 (N : Int), .slice (some ⟨g, 0, none⟩) t.length t.length] 89 (0, 0))
  row : W.heap[g]? = some (.cells (enc8 t) 99 (0, 0))
  bel : Below w0.heap.size w0 W
  ne : gm ≠ g
  lg : w0.heap.size ≤ g
  lm : w0.heap.size ≤ gm
theorem Mem.below {w0 W W' : World} {gm g : Nat} {s : ByteArray} {N : Nat} {t : List Int} (h : Mem w0 W gm g s N t) (hb : Below W.heap.size W W') : Mem w0 W' gm g s N t := ⟨blk_below h.box hb, blk_below h.row hb, below_then h.bel h.bel.size hb, h.ne, h.lg, h.lm⟩
theorem Mem.put {w0 W : World} {gm g : Nat} {s : ByteArray} {N : Nat} {t : List Int} (h : Mem w0 W gm g s N t) (c : Nat) (x : Int) : Mem w0 (W.setCell ⟨g, c, none⟩ (.int .i8 x)) gm g s N (t.set c x) :=
  ⟨by rw [List.length_set]; exact blk_far h.box h.ne _, by rw [← enc8_set]; exact blk_set h.row c _, below_set h.bel h.lg, h.ne, h.lg, h.lm⟩
theorem Mem.cell {w0 W : World} {gm g : Nat} {s : ByteArray} {N : Nat} {t : List Int} (h : Mem w0 W gm g s N t) {c : Nat} (hc : c < t.length) : W.cell? ⟨g, c, none⟩ = some (.int .i8 (t.getD c 0)) := (blk_cell h.row c).trans (enc8_get hc)
def Ok (E : Nat → Bool) (t : List Int) (c : Nat) : Prop := t.getD c 0 = 0 ∨ t.getD c 0 = bitv (E c)
def Reg (N id n i j c : Nat) : Prop := ∃ q a b, id ≤ q ∧ q < id + n ∧ i ≤ a ∧ a ≤ b ∧ b ≤ j ∧ c = fl N q a b
def Post (w0 : World) (gm g : Nat) (s : ByteArray) (N : Nat) (E : Nat → Bool) (t : List Int) (W : World) (r : Bool) (e : Ending) (W' : World) : Prop :=
  e = .returned (.bool r) ∧ ∃ t', t'.length = t.length ∧ (∀ c, t'.getD c 0 = t.getD c 0 ∨ t'.getD c 0 = bitv (E c)) ∧ Mem w0 W' gm g s N t' ∧ KeepBut W W' g none
def Agr (l : List Int) (N : Nat) (E : Nat → Bool) : Rx → Nat → Prop
  | .cat x y, id => (∀ i j, i ≤ j → j < N → E (fl N id i j) = mt l (.cat x y) i j) ∧ Agr l N E x (id + 1) ∧ Agr l N E y (id + 1 + sz x)
  | .or x y, id => (∀ i j, i ≤ j → j < N → E (fl N id i j) = mt l (.or x y) i j) ∧ Agr l N E x (id + 1) ∧ Agr l N E y (id + 1 + sz x)
  | .and x y, id => (∀ i j, i ≤ j → j < N → E (fl N id i j) = mt l (.and x y) i j) ∧ Agr l N E x (id + 1) ∧ Agr l N E y (id + 1 + sz x)
  | .star x, id => (∀ i j, i ≤ j → j < N → E (fl N id i j) = mt l (.star x) i j) ∧ Agr l N E x (id + 1)
  | .not x, id => (∀ i j, i ≤ j → j < N → E (fl N id i j) = mt l (.not x) i j) ∧ Agr l N E x (id + 1)
  | .none, id => ∀ i j, i ≤ j → j < N → E (fl N id i j) = mt l .none i j
  | .empty, id => ∀ i j, i ≤ j → j < N → E (fl N id i j) = mt l .empty i j
  | .letter c, id => ∀ i j, i ≤ j → j < N → E (fl N id i j) = mt l (.letter c) i j
  | .any, id => ∀ i j, i ≤ j → j < N → E (fl N id i j) = mt l .any i j
theorem Agr.own {l : List Int} {N : Nat} {E : Nat → Bool} {x : Rx} {id : Nat} (h : Agr l N E x id) {i j : Nat} (hi : i ≤ j) (hj : j < N) : E (fl N id i j) = mt l x i j := by
  cases x <;> first | exact h.1 i j hi hj | exact h i j hi hj
theorem keep_of_below {w w' : World} (g : Nat) (h : Below w.heap.size w w') : KeepBut w w' g none := ⟨h.size, fun i hi _ _ => h.block i hi⟩
theorem getD_set {t : List Int} {p c : Nat} {x : Int} (h : p < t.length) : (t.set p x).getD c 0 = if c = p then x else t.getD c 0 := by
  rw [List.getD_eq_getElem?_getD, List.getD_eq_getElem?_getD, List.getElem?_set]
  by_cases e : p = c
  · subst e
    simp [h]
  · rw [if_neg e, if_neg (fun e2 => e e2.symm)]
theorem postC {t t' : List Int} {E : Nat → Bool} {p : Nat} {b : Bool} (hp : p < t.length) (hx : ∀ c, t'.getD c 0 = (t.set p 1).getD c 0 ∨ t'.getD c 0 = bitv (E c)) (hv : t'.getD p 0 = bitv b) (hE : E p = b) : ∀ c, t'.getD c 0 = t.getD c 0 ∨ t'.getD c 0 = bitv (E c) := fun c => by
  by_cases e : c = p
  · subst e
    rw [hE]
    exact Or.inr hv
  · have := hx c
    rw [getD_set hp, if_neg e] at this
    exact this
theorem postT {t t' : List Int} {E : Nat → Bool} {p : Nat} (hp : p < t.length) (hl : t'.length = t.length) (hx : ∀ c, t'.getD c 0 = (t.set p 1).getD c 0 ∨ t'.getD c 0 = bitv (E c)) (hE : E p = true) : ∀ c, (t'.set p 2).getD c 0 = t.getD c 0 ∨ (t'.set p 2).getD c 0 = bitv (E c) := fun c => by
  rw [getD_set (by omega)]
  by_cases e : c = p
  · subst e
    rw [hE, if_pos rfl]
    exact Or.inr rfl
  · have := hx c
    rw [getD_set hp, if_neg e] at this
    rw [if_neg e]
    exact this
def Tm1 : Bool × List (List Nat × List Nat) := (true, [([], []), ([], []), ([1], [1]), ([2], [2]), ([3], [3]), ([0, 4], [0, 4]), ([], []), ([5, 6], [5, 6]), ([], []), ([8], [8]), ([9], [9]), ([10], [10]), ([7, 11], [7, 11]), ([], []), ([12, 13], [12, 13]), ([14, 0, 1, 2, 3, 4, 5, 6, 7, 8, 9, 10, 11, 12, 13, 14], [14])])
def Bm1 : List Nat := [0, 0, 2, 6, 14, 31, 0, 127, 0, 256, 768, 1792, 4095, 0, 16383, 32767]
theorem tabm1 : rtab .any (opsOf Try.f80 1) = Tm1 := by kernel_rfl
theorem bitsm1 : waitsOk Tm1.2 Bm1 = true := by kernel_rfl
theorem wr_ {n : Int} (h0 : -9223372036854775808 ≤ n) (h1 : n ≤ 9223372036854775807) : IntKind.i64.wrap n = n := by rw [IntKind.wrap_i64]; omega
set_option maxHeartbeats 4000000 in
set_option maxRecDepth 100000 in
theorem matchStep (w0 W : World) (gm g : Nat) (s : ByteArray) (N T : Nat) (E : Nat → Bool) (t : List Int) (x : Rx) (r : Tr) (A : Option Addr) (c id i j : Nat) (hN : N = s.size + 1) (hN2 : N ≤ 1000) (hT : T ≤ 1000) (hid : id < T) (hi : i ≤ j) (hj : j ≤ s.size) (ht : t.length = T * N * N) (hm : Mem w0 W gm g s N t)
    (hE : E (fl N id i j) = mt (bytesOf s) x i j) (hok : Ok E t (fl N id i j))
    (hf : t.getD (fl N id i j) 0 = 0 → ∀ W1, Mem w0 W1 gm g s N (t.set (fl N id i j) 1) → Calls Try.prog 88 #[.pointer (some ⟨gm, 0, none⟩), .agg #[.int .i64 r.f0, .string r.f1, .slice A r.f2.length c], .int .i64 id, .int .i64 i, .int .i64 j] W1 (Post w0 gm g s N E (t.set (fl N id i j) 1) W1 (mt (bytesOf s) x i j))) :
    Calls Try.prog 80 #[.pointer (some ⟨gm, 0, none⟩), .agg #[.int .i64 r.f0, .string r.f1, .slice A r.f2.length c], .int .i64 id, .int .i64 i, .int .i64 j] W (Post w0 gm g s N E t W (mt (bytesOf s) x i j)) := by
  have hlt : fl N id i j < t.length := by rw [ht]; exact fl_lt hid (by omega) (by omega)
  have HF := Aside0.mk hf
  have HM := Aside0.mk hm
  have hcell := hm.cell hlt
  obtain ⟨p1, hp1⟩ : ∃ p, p = id * N := ⟨_, rfl⟩
  obtain ⟨p2, hp2⟩ : ∃ p, p = p1 + i := ⟨_, rfl⟩
  obtain ⟨p3, hp3⟩ : ∃ p, p = p2 * N := ⟨_, rfl⟩
  obtain ⟨p4, hp4⟩ : ∃ p, p = p3 + j := ⟨_, rfl⟩
  have hfl : fl N id i j = p4 := by unfold fl; rw [hp4, hp3, hp2, hp1]
  have b1 : p1 ≤ 1000 * 1000 := by rw [hp1]; exact Nat.mul_le_mul (by omega) (by omega)
  have b3 : p3 ≤ 1001000 * 1000 := by rw [hp3]; exact Nat.mul_le_mul (by omega) (by omega)
  have m1 : IntKind.i64.wrap ((id : Int) * (N : Int)) = (p1 : Int) := by rw [← Int.natCast_mul, ← hp1]; exact wr_ (by omega) (by omega)
  have m2 : IntKind.i64.wrap ((p1 : Int) + (i : Int)) = (p2 : Int) := by rw [wr_ (by omega) (by omega)]; omega
  have m3 : IntKind.i64.wrap ((p2 : Int) * (N : Int)) = (p3 : Int) := by rw [← Int.natCast_mul, ← hp3]; exact wr_ (by omega) (by omega)
  have m4 : IntKind.i64.wrap ((p3 : Int) + (j : Int)) = (p4 : Int) := by rw [wr_ (by omega) (by omega)]; omega
  rw [hfl] at HF hE hok hlt hcell
  have HL := Aside0.mk hlt
  have HE := Aside0.mk hE
  have HOK := Aside0.mk hok
  have q1 : ((0 : Int) ≤ (p4 : Int)) = True := eq_true (by omega)
  have q2 : ((p4 : Int) < (t.length : Int)) = True := eq_true (by omega)
  have q2n : (p4 < t.length) = True := eq_true hlt
  have B0 : Aside0 (Below W.heap.size W (W.alloc (Obj.cells #[.int .i64 r.f0, .string r.f1, .slice A r.f2.length c] 29))) := ⟨below_alloc (Below.refl _ _) _⟩
  have hb1 : World.cell? (W.alloc (Obj.cells #[.int .i64 r.f0, .string r.f1, .slice A r.f2.length c] 29)) ⟨gm, 1, none⟩ = some (.int .i64 (N : Int)) := pw_cell_below B0.out ((blk_cell hm.box 1).trans rfl)
  have hb2 : World.cell? (W.alloc (Obj.cells #[.int .i64 r.f0, .string r.f1, .slice A r.f2.length c] 29)) ⟨gm, 2, none⟩ = some (.slice (some ⟨g, 0, none⟩) t.length t.length) := pw_cell_below B0.out ((blk_cell hm.box 2).trans rfl)
  have hb3 := pw_cell_below B0.out hcell
  clear hf hm hcell hfl hp1 hp2 hp3 hp4 b1 b3 hE hok hlt ht hi hj hN hN2 hT hid
  obtain ⟨v, hv⟩ : ∃ v, v = t.getD p4 0 := ⟨_, rfl⟩
  unfold Ok at HOK
  rw [← hv] at HF HOK hb3
  generalize mt (bytesOf s) x i j = res at HF HE ⊢
  rcases HOK.out with h0 | h0
  · rw [h0] at HF hb3
    have HF1 := Aside0.mk (fun W1 => HF.out rfl W1)
    clear HOK HF
    have HMD := Aside0.mk (HM.out.below B0.out)
    have HM1 := Aside0.mk ((HMD.out.put p4 1).below (below_drew1 (Below.refl _ _)))
    have hcz := HMD.out.cell HL.out
    rw [← hv, h0] at hcz
    clear hv h0
    have hnb : g ≠ W.heap.size := Nat.ne_of_lt (blk_lt HM.out.row)
    have hnc : W.heap.size ≠ g := hnb.symm
    have hfz := blk_frozen HMD.out.row p4
    have hb2d := (blk_cell HM1.out.box 2).trans rfl
    have HKP : Aside0 (KeepBut W ((W.alloc (Obj.cells #[.int .i64 r.f0, .string r.f1, .slice A r.f2.length c] 29)).setCell ⟨g, p4, none⟩ (.int .i8 1)).drew g none) := ⟨keep_drew (KeepBut.set_ (keep_of_below g B0.out) p4 _)⟩
    cases res
    · go_enter Try.func80, Try.ntmps80
      go_wp2
      refine start_ (n := 16) (S := (fun w' => w'.cell? ⟨gm, 1, none⟩ = some (.int .i64 (N : Int)))) (ds := []) #[false, false, false, false, false, false, false, false, false, false, false, false, false, false, false, false] (by kernel_rfl) rfl rfl (hb1) (fun hHeld => ?_); refine with_tabW tabm1 bitsm1 (fun HT_ HW_ => ?_)
      refine pure_ (i := 0) (N := some 12) (v := ?_) (a' := ?_) #[true, false, false, false, false, false, false, false, false, false, false, false, false, false, false, false] rfl rfl (any_of HT_.out (by kernel_rfl)) (fun _ _ _ h => h) (Or.inl ⟨by rfl, ?_⟩) ?_ ?_
      rotate_left
      · intro w'
        go_simp
        with_reducible rfl
      rotate_left
      · simp only [Act.put, List.setIfInBounds_toArray, List.set_cons_zero, List.set_cons_succ, i64_w, i32_w]
        rfl
      refine pure_ (i := 1) (N := some 13) (v := ?_) (a' := ?_) #[true, true, false, false, false, false, false, false, false, false, false, false, false, false, false, false] rfl rfl (any_of HT_.out (by kernel_rfl)) (fun _ _ _ h => h) (Or.inl ⟨by rfl, ?_⟩) ?_ ?_
      rotate_left
      · intro w'
        go_simp
        with_reducible rfl
      rotate_left
      · simp only [Act.put, List.setIfInBounds_toArray, List.set_cons_zero, List.set_cons_succ, i64_w, i32_w]
        rfl
      refine pure_ (i := 2) (N := some 14) (v := ?_) (a' := ?_) #[true, true, true, false, false, false, false, false, false, false, false, false, false, false, false, false] rfl rfl (any_of HT_.out (by kernel_rfl)) (fun _ _ _ h => h) (Or.inl ⟨by rfl, ?_⟩) ?_ ?_
      rotate_left
      · intro w'
        go_simp
        with_reducible rfl
      rotate_left
      · simp only [Act.put, List.setIfInBounds_toArray, List.set_cons_zero, List.set_cons_succ, i64_w, i32_w]
        rfl
      refine pure_ (i := 3) (N := some 15) (v := ?_) (a' := ?_) #[true, true, true, true, false, false, false, false, false, false, false, false, false, false, false, false] rfl rfl (any_of HT_.out (by kernel_rfl)) (fun _ _ _ h => h) (Or.inl ⟨by rfl, ?_⟩) ?_ ?_
      rotate_left
      · intro w'
        go_simp
        with_reducible rfl
      rotate_left
      · simp only [Act.put, List.setIfInBounds_toArray, List.set_cons_zero, List.set_cons_succ, i64_w, i32_w]
        rfl
      refine pure_ (i := 6) (N := some 18) (v := ?_) (a' := ?_) #[true, true, true, true, false, false, true, false, false, false, false, false, false, false, false, false] rfl rfl (any_of HT_.out (by kernel_rfl)) (fun _ _ _ h => h) (Or.inl ⟨by rfl, ?_⟩) ?_ ?_
      rotate_left
      · intro w'
        go_simp
        with_reducible rfl
      rotate_left
      · simp only [Act.put, List.setIfInBounds_toArray, List.set_cons_zero, List.set_cons_succ, i64_w, i32_w]
        rfl
      refine pure_ (i := 8) (N := some 20) (v := ?_) (a' := ?_) #[true, true, true, true, false, false, true, false, true, false, false, false, false, false, false, false] rfl rfl (any_of HT_.out (by kernel_rfl)) (fun _ _ _ h => h) (Or.inl ⟨by rfl, ?_⟩) ?_ ?_
      rotate_left
      · intro w'
        go_simp
        with_reducible rfl
      rotate_left
      · simp only [Act.put, List.setIfInBounds_toArray, List.set_cons_zero, List.set_cons_succ, i64_w, i32_w]
        rfl
      refine pure_ (i := 9) (N := some 21) (v := ?_) (a' := ?_) #[true, true, true, true, false, false, true, false, true, true, false, false, false, false, false, false] rfl rfl (any_of HT_.out (by kernel_rfl)) (fun _ _ _ h => h) (Or.inl ⟨by rfl, ?_⟩) ?_ ?_
      rotate_left
      · intro w'
        go_simp
        with_reducible rfl
      rotate_left
      · simp only [Act.put, List.setIfInBounds_toArray, List.set_cons_zero, List.set_cons_succ, i64_w, i32_w]
        rfl
      refine pure_ (i := 10) (N := some 22) (v := ?_) (a' := ?_) #[true, true, true, true, false, false, true, false, true, true, true, false, false, false, false, false] rfl rfl (any_of HT_.out (by kernel_rfl)) (fun _ _ _ h => h) (Or.inl ⟨by rfl, ?_⟩) ?_ ?_
      rotate_left
      · intro w'
        go_simp
        with_reducible rfl
      rotate_left
      · simp only [Act.put, List.setIfInBounds_toArray, List.set_cons_zero, List.set_cons_succ, i64_w, i32_w]
        rfl
      refine pure_ (i := 13) (N := some 25) (v := ?_) (a' := ?_) #[true, true, true, true, false, false, true, false, true, true, true, false, false, true, false, false] rfl rfl (any_of HT_.out (by kernel_rfl)) (fun _ _ _ h => h) (Or.inl ⟨by rfl, ?_⟩) ?_ ?_
      rotate_left
      · intro w'
        go_simp
        with_reducible rfl
      rotate_left
      · simp only [Act.put, List.setIfInBounds_toArray, List.set_cons_zero, List.set_cons_succ, i64_w, i32_w]
        rfl
      refine take_ (i := 4) (N := some 16) (v := ?_) (a' := ?_) #[true, true, true, true, true, false, true, false, true, true, true, false, false, true, false, false] rfl rfl (take_ofW HT_.out HW_.out (by kernel_rfl)) (fun _ _ _ h => h) (Or.inl ⟨by rfl, ?_⟩) hHeld ?_ ?_
      rotate_left
      · intro w' t0
        go_simp
        with_reducible rfl
      rotate_left
      · simp only [Act.put, List.setIfInBounds_toArray, List.set_cons_zero, List.set_cons_succ, i64_w, i32_w]
        rfl
      refine pure_ (i := 5) (N := some 17) (v := ?_) (a' := ?_) #[true, true, true, true, true, true, true, false, true, true, true, false, false, true, false, false] rfl rfl (any_of HT_.out (by kernel_rfl)) (fun _ _ _ h => h) (Or.inl ⟨by rfl, ?_⟩) ?_ ?_
      rotate_left
      · intro w'
        go_simp
        with_reducible rfl
      rotate_left
      · simp only [Act.put, List.setIfInBounds_toArray, List.set_cons_zero, List.set_cons_succ, i64_w, i32_w]
        rfl
      refine pure_ (i := 7) (N := some 19) (v := ?_) (a' := ?_) #[true, true, true, true, true, true, true, true, true, true, true, false, false, true, false, false] rfl rfl (any_of HT_.out (by kernel_rfl)) (fun _ _ _ h => h) (Or.inl ⟨by rfl, ?_⟩) ?_ ?_
      rotate_left
      · intro w'
        go_simp
        with_reducible rfl
      rotate_left
      · simp only [Act.put, List.setIfInBounds_toArray, List.set_cons_zero, List.set_cons_succ, i64_w, i32_w]
        rfl
      refine take_ (i := 11) (N := some 23) (v := ?_) (a' := ?_) #[true, true, true, true, true, true, true, true, true, true, true, true, false, true, false, false] rfl rfl (take_ofW HT_.out HW_.out (by kernel_rfl)) (fun _ _ _ h => h) (Or.inl ⟨by rfl, ?_⟩) hHeld ?_ ?_
      rotate_left
      · intro w' t0
        go_simp
        with_reducible rfl
      rotate_left
      · simp only [Act.put, List.setIfInBounds_toArray, List.set_cons_zero, List.set_cons_succ, i64_w, i32_w]
        rfl
      refine pure_ (i := 12) (N := some 24) (v := ?_) (a' := ?_) #[true, true, true, true, true, true, true, true, true, true, true, true, true, true, false, false] rfl rfl (any_of HT_.out (by kernel_rfl)) (fun _ _ _ h => h) (Or.inl ⟨by rfl, ?_⟩) ?_ ?_
      rotate_left
      · intro w'
        go_simp
        with_reducible rfl
      rotate_left
      · simp only [Act.put, List.setIfInBounds_toArray, List.set_cons_zero, List.set_cons_succ, i64_w, i32_w]
        rfl
      refine pure_ (i := 14) (N := some 26) (v := ?_) (a' := ?_) #[true, true, true, true, true, true, true, true, true, true, true, true, true, true, true, false] rfl rfl (any_of HT_.out (by kernel_rfl)) (fun _ _ _ h => h) (Or.inl ⟨by rfl, ?_⟩) ?_ ?_
      rotate_left
      · intro w'
        go_simp
        with_reducible rfl
      rotate_left
      · simp only [Act.put, List.setIfInBounds_toArray, List.set_cons_zero, List.set_cons_succ, i64_w, i32_w]
        rfl
      refine pure_ (i := 15) (N := some 11) (v := ?_) (a' := ?_) #[true, true, true, true, true, true, true, true, true, true, true, true, true, true, true, true] rfl rfl (any_of HT_.out (by kernel_rfl)) (fun _ _ _ h => h) (Or.inl ⟨by rfl, ?_⟩) ?_ ?_
      rotate_left
      · intro w'
        go_simp
        with_reducible rfl
      rotate_left
      · simp only [Act.put, List.setIfInBounds_toArray, List.set_cons_zero, List.set_cons_succ, i64_w, i32_w]
        rfl
      refine done_ (done_of HT_.out (by kernel_rfl)) ?_
      clear HT_ HW_ hHeld
      go_wp2_with (go_at_call 88; (with_reducible refine (HF1.out _ HM1.out).mono ?_); rintro e w2 ⟨rfl, t', hl, hx, hm, hk⟩; rw [List.length_set] at hl; have HM2 := Aside0.mk hm; have HX := Aside0.mk hx; have HK2 := Aside0.mk hk; have HL2 := Aside0.mk hl; have hv : t'.getD p4 0 = 1 := (by rcases hx p4 with h | h; { rw [h, getD_set HL.out, if_pos rfl] }; { rw [h, HE.out]; rfl }); have hc6 := hm.cell (c := p4) (by rw [hl]; exact HL.out); rw [hv] at hc6; have HV := Aside0.mk hv; have hb6 : World.cell? w2 ⟨gm, 2, none⟩ = some (.slice (some ⟨g, 0, none⟩) t'.length t'.length) := (blk_cell hm.box 2).trans rfl; rw [hl] at hb6; clear hl hx hm hk hv)
      go_ret
      exact ⟨rfl, t', HL2.out, postC (b := false) HL.out HX.out HV.out HE.out, HM2.out, HKP.out.trans HK2.out (.inl rfl)⟩
    · go_enter Try.func80, Try.ntmps80
      go_wp2
      refine start_ (n := 16) (S := (fun w' => w'.cell? ⟨gm, 1, none⟩ = some (.int .i64 (N : Int)))) (ds := []) #[false, false, false, false, false, false, false, false, false, false, false, false, false, false, false, false] (by kernel_rfl) rfl rfl (hb1) (fun hHeld => ?_); refine with_tabW tabm1 bitsm1 (fun HT_ HW_ => ?_)
      refine pure_ (i := 0) (N := some 12) (v := ?_) (a' := ?_) #[true, false, false, false, false, false, false, false, false, false, false, false, false, false, false, false] rfl rfl (any_of HT_.out (by kernel_rfl)) (fun _ _ _ h => h) (Or.inl ⟨by rfl, ?_⟩) ?_ ?_
      rotate_left
      · intro w'
        go_simp
        with_reducible rfl
      rotate_left
      · simp only [Act.put, List.setIfInBounds_toArray, List.set_cons_zero, List.set_cons_succ, i64_w, i32_w]
        rfl
      refine pure_ (i := 1) (N := some 13) (v := ?_) (a' := ?_) #[true, true, false, false, false, false, false, false, false, false, false, false, false, false, false, false] rfl rfl (any_of HT_.out (by kernel_rfl)) (fun _ _ _ h => h) (Or.inl ⟨by rfl, ?_⟩) ?_ ?_
      rotate_left
      · intro w'
        go_simp
        with_reducible rfl
      rotate_left
      · simp only [Act.put, List.setIfInBounds_toArray, List.set_cons_zero, List.set_cons_succ, i64_w, i32_w]
        rfl
      refine pure_ (i := 2) (N := some 14) (v := ?_) (a' := ?_) #[true, true, true, false, false, false, false, false, false, false, false, false, false, false, false, false] rfl rfl (any_of HT_.out (by kernel_rfl)) (fun _ _ _ h => h) (Or.inl ⟨by rfl, ?_⟩) ?_ ?_
      rotate_left
      · intro w'
        go_simp
        with_reducible rfl
      rotate_left
      · simp only [Act.put, List.setIfInBounds_toArray, List.set_cons_zero, List.set_cons_succ, i64_w, i32_w]
        rfl
      refine pure_ (i := 3) (N := some 15) (v := ?_) (a' := ?_) #[true, true, true, true, false, false, false, false, false, false, false, false, false, false, false, false] rfl rfl (any_of HT_.out (by kernel_rfl)) (fun _ _ _ h => h) (Or.inl ⟨by rfl, ?_⟩) ?_ ?_
      rotate_left
      · intro w'
        go_simp
        with_reducible rfl
      rotate_left
      · simp only [Act.put, List.setIfInBounds_toArray, List.set_cons_zero, List.set_cons_succ, i64_w, i32_w]
        rfl
      refine pure_ (i := 6) (N := some 18) (v := ?_) (a' := ?_) #[true, true, true, true, false, false, true, false, false, false, false, false, false, false, false, false] rfl rfl (any_of HT_.out (by kernel_rfl)) (fun _ _ _ h => h) (Or.inl ⟨by rfl, ?_⟩) ?_ ?_
      rotate_left
      · intro w'
        go_simp
        with_reducible rfl
      rotate_left
      · simp only [Act.put, List.setIfInBounds_toArray, List.set_cons_zero, List.set_cons_succ, i64_w, i32_w]
        rfl
      refine pure_ (i := 8) (N := some 20) (v := ?_) (a' := ?_) #[true, true, true, true, false, false, true, false, true, false, false, false, false, false, false, false] rfl rfl (any_of HT_.out (by kernel_rfl)) (fun _ _ _ h => h) (Or.inl ⟨by rfl, ?_⟩) ?_ ?_
      rotate_left
      · intro w'
        go_simp
        with_reducible rfl
      rotate_left
      · simp only [Act.put, List.setIfInBounds_toArray, List.set_cons_zero, List.set_cons_succ, i64_w, i32_w]
        rfl
      refine pure_ (i := 9) (N := some 21) (v := ?_) (a' := ?_) #[true, true, true, true, false, false, true, false, true, true, false, false, false, false, false, false] rfl rfl (any_of HT_.out (by kernel_rfl)) (fun _ _ _ h => h) (Or.inl ⟨by rfl, ?_⟩) ?_ ?_
      rotate_left
      · intro w'
        go_simp
        with_reducible rfl
      rotate_left
      · simp only [Act.put, List.setIfInBounds_toArray, List.set_cons_zero, List.set_cons_succ, i64_w, i32_w]
        rfl
      refine pure_ (i := 10) (N := some 22) (v := ?_) (a' := ?_) #[true, true, true, true, false, false, true, false, true, true, true, false, false, false, false, false] rfl rfl (any_of HT_.out (by kernel_rfl)) (fun _ _ _ h => h) (Or.inl ⟨by rfl, ?_⟩) ?_ ?_
      rotate_left
      · intro w'
        go_simp
        with_reducible rfl
      rotate_left
      · simp only [Act.put, List.setIfInBounds_toArray, List.set_cons_zero, List.set_cons_succ, i64_w, i32_w]
        rfl
      refine pure_ (i := 13) (N := some 25) (v := ?_) (a' := ?_) #[true, true, true, true, false, false, true, false, true, true, true, false, false, true, false, false] rfl rfl (any_of HT_.out (by kernel_rfl)) (fun _ _ _ h => h) (Or.inl ⟨by rfl, ?_⟩) ?_ ?_
      rotate_left
      · intro w'
        go_simp
        with_reducible rfl
      rotate_left
      · simp only [Act.put, List.setIfInBounds_toArray, List.set_cons_zero, List.set_cons_succ, i64_w, i32_w]
        rfl
      refine take_ (i := 4) (N := some 16) (v := ?_) (a' := ?_) #[true, true, true, true, true, false, true, false, true, true, true, false, false, true, false, false] rfl rfl (take_ofW HT_.out HW_.out (by kernel_rfl)) (fun _ _ _ h => h) (Or.inl ⟨by rfl, ?_⟩) hHeld ?_ ?_
      rotate_left
      · intro w' t0
        go_simp
        with_reducible rfl
      rotate_left
      · simp only [Act.put, List.setIfInBounds_toArray, List.set_cons_zero, List.set_cons_succ, i64_w, i32_w]
        rfl
      refine pure_ (i := 5) (N := some 17) (v := ?_) (a' := ?_) #[true, true, true, true, true, true, true, false, true, true, true, false, false, true, false, false] rfl rfl (any_of HT_.out (by kernel_rfl)) (fun _ _ _ h => h) (Or.inl ⟨by rfl, ?_⟩) ?_ ?_
      rotate_left
      · intro w'
        go_simp
        with_reducible rfl
      rotate_left
      · simp only [Act.put, List.setIfInBounds_toArray, List.set_cons_zero, List.set_cons_succ, i64_w, i32_w]
        rfl
      refine pure_ (i := 7) (N := some 19) (v := ?_) (a' := ?_) #[true, true, true, true, true, true, true, true, true, true, true, false, false, true, false, false] rfl rfl (any_of HT_.out (by kernel_rfl)) (fun _ _ _ h => h) (Or.inl ⟨by rfl, ?_⟩) ?_ ?_
      rotate_left
      · intro w'
        go_simp
        with_reducible rfl
      rotate_left
      · simp only [Act.put, List.setIfInBounds_toArray, List.set_cons_zero, List.set_cons_succ, i64_w, i32_w]
        rfl
      refine take_ (i := 11) (N := some 23) (v := ?_) (a' := ?_) #[true, true, true, true, true, true, true, true, true, true, true, true, false, true, false, false] rfl rfl (take_ofW HT_.out HW_.out (by kernel_rfl)) (fun _ _ _ h => h) (Or.inl ⟨by rfl, ?_⟩) hHeld ?_ ?_
      rotate_left
      · intro w' t0
        go_simp
        with_reducible rfl
      rotate_left
      · simp only [Act.put, List.setIfInBounds_toArray, List.set_cons_zero, List.set_cons_succ, i64_w, i32_w]
        rfl
      refine pure_ (i := 12) (N := some 24) (v := ?_) (a' := ?_) #[true, true, true, true, true, true, true, true, true, true, true, true, true, true, false, false] rfl rfl (any_of HT_.out (by kernel_rfl)) (fun _ _ _ h => h) (Or.inl ⟨by rfl, ?_⟩) ?_ ?_
      rotate_left
      · intro w'
        go_simp
        with_reducible rfl
      rotate_left
      · simp only [Act.put, List.setIfInBounds_toArray, List.set_cons_zero, List.set_cons_succ, i64_w, i32_w]
        rfl
      refine pure_ (i := 14) (N := some 26) (v := ?_) (a' := ?_) #[true, true, true, true, true, true, true, true, true, true, true, true, true, true, true, false] rfl rfl (any_of HT_.out (by kernel_rfl)) (fun _ _ _ h => h) (Or.inl ⟨by rfl, ?_⟩) ?_ ?_
      rotate_left
      · intro w'
        go_simp
        with_reducible rfl
      rotate_left
      · simp only [Act.put, List.setIfInBounds_toArray, List.set_cons_zero, List.set_cons_succ, i64_w, i32_w]
        rfl
      refine pure_ (i := 15) (N := some 11) (v := ?_) (a' := ?_) #[true, true, true, true, true, true, true, true, true, true, true, true, true, true, true, true] rfl rfl (any_of HT_.out (by kernel_rfl)) (fun _ _ _ h => h) (Or.inl ⟨by rfl, ?_⟩) ?_ ?_
      rotate_left
      · intro w'
        go_simp
        with_reducible rfl
      rotate_left
      · simp only [Act.put, List.setIfInBounds_toArray, List.set_cons_zero, List.set_cons_succ, i64_w, i32_w]
        rfl
      refine done_ (done_of HT_.out (by kernel_rfl)) ?_
      clear HT_ HW_ hHeld
      go_wp2_with (go_at_call 88; (with_reducible refine (HF1.out _ HM1.out).mono ?_); rintro e w2 ⟨rfl, t', hl, hx, hm, hk⟩; rw [List.length_set] at hl; have HM2 := Aside0.mk hm; have HX := Aside0.mk hx; have HK2 := Aside0.mk hk; have HL2 := Aside0.mk hl; have hc6 := hm.cell (c := p4) (by rw [hl]; exact HL.out); have hfz6 := blk_frozen hm.row p4; have hng := hm.ne; have hnh := hm.ne.symm; have hb6 : World.cell? w2 ⟨gm, 2, none⟩ = some (.slice (some ⟨g, 0, none⟩) t'.length t'.length) := (blk_cell hm.box 2).trans rfl; rw [hl] at hb6; clear hl hx hm hk)
      go_ret
      exact ⟨rfl, t'.set p4 2, by rw [List.length_set]; exact HL2.out, postT HL.out HL2.out HX.out HE.out, HM2.out.put p4 2, (HKP.out.trans HK2.out (.inl rfl)).set_ p4 _⟩
  · rw [HE.out] at h0
    have h0 : v = if res then 2 else 1 := h0
    cases res <;> simp only [if_true, Bool.false_eq_true, if_false] at h0 <;> rw [h0] at HF hb3 <;> clear h0 HOK hv
    all_goals
      go_enter Try.func80, Try.ntmps80
      go_wp2
      refine start_ (n := 16) (S := (fun w' => w'.cell? ⟨gm, 1, none⟩ = some (.int .i64 (N : Int)))) (ds := []) #[false, false, false, false, false, false, false, false, false, false, false, false, false, false, false, false] (by kernel_rfl) rfl rfl (hb1) (fun hHeld => ?_); refine with_tabW tabm1 bitsm1 (fun HT_ HW_ => ?_)
      refine pure_ (i := 0) (N := some 12) (v := ?_) (a' := ?_) #[true, false, false, false, false, false, false, false, false, false, false, false, false, false, false, false] rfl rfl (any_of HT_.out (by kernel_rfl)) (fun _ _ _ h => h) (Or.inl ⟨by rfl, ?_⟩) ?_ ?_
      rotate_left
      · intro w'
        go_simp
        with_reducible rfl
      rotate_left
      · simp only [Act.put, List.setIfInBounds_toArray, List.set_cons_zero, List.set_cons_succ, i64_w, i32_w]
        rfl
      refine pure_ (i := 1) (N := some 13) (v := ?_) (a' := ?_) #[true, true, false, false, false, false, false, false, false, false, false, false, false, false, false, false] rfl rfl (any_of HT_.out (by kernel_rfl)) (fun _ _ _ h => h) (Or.inl ⟨by rfl, ?_⟩) ?_ ?_
      rotate_left
      · intro w'
        go_simp
        with_reducible rfl
      rotate_left
      · simp only [Act.put, List.setIfInBounds_toArray, List.set_cons_zero, List.set_cons_succ, i64_w, i32_w]
        rfl
      refine pure_ (i := 2) (N := some 14) (v := ?_) (a' := ?_) #[true, true, true, false, false, false, false, false, false, false, false, false, false, false, false, false] rfl rfl (any_of HT_.out (by kernel_rfl)) (fun _ _ _ h => h) (Or.inl ⟨by rfl, ?_⟩) ?_ ?_
      rotate_left
      · intro w'
        go_simp
        with_reducible rfl
      rotate_left
      · simp only [Act.put, List.setIfInBounds_toArray, List.set_cons_zero, List.set_cons_succ, i64_w, i32_w]
        rfl
      refine pure_ (i := 3) (N := some 15) (v := ?_) (a' := ?_) #[true, true, true, true, false, false, false, false, false, false, false, false, false, false, false, false] rfl rfl (any_of HT_.out (by kernel_rfl)) (fun _ _ _ h => h) (Or.inl ⟨by rfl, ?_⟩) ?_ ?_
      rotate_left
      · intro w'
        go_simp
        with_reducible rfl
      rotate_left
      · simp only [Act.put, List.setIfInBounds_toArray, List.set_cons_zero, List.set_cons_succ, i64_w, i32_w]
        rfl
      refine pure_ (i := 6) (N := some 18) (v := ?_) (a' := ?_) #[true, true, true, true, false, false, true, false, false, false, false, false, false, false, false, false] rfl rfl (any_of HT_.out (by kernel_rfl)) (fun _ _ _ h => h) (Or.inl ⟨by rfl, ?_⟩) ?_ ?_
      rotate_left
      · intro w'
        go_simp
        with_reducible rfl
      rotate_left
      · simp only [Act.put, List.setIfInBounds_toArray, List.set_cons_zero, List.set_cons_succ, i64_w, i32_w]
        rfl
      refine pure_ (i := 8) (N := some 20) (v := ?_) (a' := ?_) #[true, true, true, true, false, false, true, false, true, false, false, false, false, false, false, false] rfl rfl (any_of HT_.out (by kernel_rfl)) (fun _ _ _ h => h) (Or.inl ⟨by rfl, ?_⟩) ?_ ?_
      rotate_left
      · intro w'
        go_simp
        with_reducible rfl
      rotate_left
      · simp only [Act.put, List.setIfInBounds_toArray, List.set_cons_zero, List.set_cons_succ, i64_w, i32_w]
        rfl
      refine pure_ (i := 9) (N := some 21) (v := ?_) (a' := ?_) #[true, true, true, true, false, false, true, false, true, true, false, false, false, false, false, false] rfl rfl (any_of HT_.out (by kernel_rfl)) (fun _ _ _ h => h) (Or.inl ⟨by rfl, ?_⟩) ?_ ?_
      rotate_left
      · intro w'
        go_simp
        with_reducible rfl
      rotate_left
      · simp only [Act.put, List.setIfInBounds_toArray, List.set_cons_zero, List.set_cons_succ, i64_w, i32_w]
        rfl
      refine pure_ (i := 10) (N := some 22) (v := ?_) (a' := ?_) #[true, true, true, true, false, false, true, false, true, true, true, false, false, false, false, false] rfl rfl (any_of HT_.out (by kernel_rfl)) (fun _ _ _ h => h) (Or.inl ⟨by rfl, ?_⟩) ?_ ?_
      rotate_left
      · intro w'
        go_simp
        with_reducible rfl
      rotate_left
      · simp only [Act.put, List.setIfInBounds_toArray, List.set_cons_zero, List.set_cons_succ, i64_w, i32_w]
        rfl
      refine pure_ (i := 13) (N := some 25) (v := ?_) (a' := ?_) #[true, true, true, true, false, false, true, false, true, true, true, false, false, true, false, false] rfl rfl (any_of HT_.out (by kernel_rfl)) (fun _ _ _ h => h) (Or.inl ⟨by rfl, ?_⟩) ?_ ?_
      rotate_left
      · intro w'
        go_simp
        with_reducible rfl
      rotate_left
      · simp only [Act.put, List.setIfInBounds_toArray, List.set_cons_zero, List.set_cons_succ, i64_w, i32_w]
        rfl
      refine take_ (i := 4) (N := some 16) (v := ?_) (a' := ?_) #[true, true, true, true, true, false, true, false, true, true, true, false, false, true, false, false] rfl rfl (take_ofW HT_.out HW_.out (by kernel_rfl)) (fun _ _ _ h => h) (Or.inl ⟨by rfl, ?_⟩) hHeld ?_ ?_
      rotate_left
      · intro w' t0
        go_simp
        with_reducible rfl
      rotate_left
      · simp only [Act.put, List.setIfInBounds_toArray, List.set_cons_zero, List.set_cons_succ, i64_w, i32_w]
        rfl
      refine pure_ (i := 5) (N := some 17) (v := ?_) (a' := ?_) #[true, true, true, true, true, true, true, false, true, true, true, false, false, true, false, false] rfl rfl (any_of HT_.out (by kernel_rfl)) (fun _ _ _ h => h) (Or.inl ⟨by rfl, ?_⟩) ?_ ?_
      rotate_left
      · intro w'
        go_simp
        with_reducible rfl
      rotate_left
      · simp only [Act.put, List.setIfInBounds_toArray, List.set_cons_zero, List.set_cons_succ, i64_w, i32_w]
        rfl
      refine pure_ (i := 7) (N := some 19) (v := ?_) (a' := ?_) #[true, true, true, true, true, true, true, true, true, true, true, false, false, true, false, false] rfl rfl (any_of HT_.out (by kernel_rfl)) (fun _ _ _ h => h) (Or.inl ⟨by rfl, ?_⟩) ?_ ?_
      rotate_left
      · intro w'
        go_simp
        with_reducible rfl
      rotate_left
      · simp only [Act.put, List.setIfInBounds_toArray, List.set_cons_zero, List.set_cons_succ, i64_w, i32_w]
        rfl
      refine take_ (i := 11) (N := some 23) (v := ?_) (a' := ?_) #[true, true, true, true, true, true, true, true, true, true, true, true, false, true, false, false] rfl rfl (take_ofW HT_.out HW_.out (by kernel_rfl)) (fun _ _ _ h => h) (Or.inl ⟨by rfl, ?_⟩) hHeld ?_ ?_
      rotate_left
      · intro w' t0
        go_simp
        with_reducible rfl
      rotate_left
      · simp only [Act.put, List.setIfInBounds_toArray, List.set_cons_zero, List.set_cons_succ, i64_w, i32_w]
        rfl
      refine pure_ (i := 12) (N := some 24) (v := ?_) (a' := ?_) #[true, true, true, true, true, true, true, true, true, true, true, true, true, true, false, false] rfl rfl (any_of HT_.out (by kernel_rfl)) (fun _ _ _ h => h) (Or.inl ⟨by rfl, ?_⟩) ?_ ?_
      rotate_left
      · intro w'
        go_simp
        with_reducible rfl
      rotate_left
      · simp only [Act.put, List.setIfInBounds_toArray, List.set_cons_zero, List.set_cons_succ, i64_w, i32_w]
        rfl
      refine pure_ (i := 14) (N := some 26) (v := ?_) (a' := ?_) #[true, true, true, true, true, true, true, true, true, true, true, true, true, true, true, false] rfl rfl (any_of HT_.out (by kernel_rfl)) (fun _ _ _ h => h) (Or.inl ⟨by rfl, ?_⟩) ?_ ?_
      rotate_left
      · intro w'
        go_simp
        with_reducible rfl
      rotate_left
      · simp only [Act.put, List.setIfInBounds_toArray, List.set_cons_zero, List.set_cons_succ, i64_w, i32_w]
        rfl
      refine pure_ (i := 15) (N := some 11) (v := ?_) (a' := ?_) #[true, true, true, true, true, true, true, true, true, true, true, true, true, true, true, true] rfl rfl (any_of HT_.out (by kernel_rfl)) (fun _ _ _ h => h) (Or.inl ⟨by rfl, ?_⟩) ?_ ?_
      rotate_left
      · intro w'
        go_simp
        with_reducible rfl
      rotate_left
      · simp only [Act.put, List.setIfInBounds_toArray, List.set_cons_zero, List.set_cons_succ, i64_w, i32_w]
        rfl
      refine done_ (done_of HT_.out (by kernel_rfl)) ?_
      clear HT_ HW_ hHeld
      have BD : Aside0 (Below W.heap.size W (W.alloc (Obj.cells #[.int .i64 r.f0, .string r.f1, .slice A r.f2.length c] 29)).drew) := ⟨below_drew1 B0.out⟩
      have hb2d := pw_cell_below BD.out ((blk_cell HM.out.box 2).trans rfl)
      go_wp2
      go_ret
      exact ⟨rfl, t, rfl, fun _ => Or.inl rfl, HM.out.below BD.out, keep_of_below g BD.out⟩
structure St (w0 W1 W' : World) (gm g : Nat) (s : ByteArray) (N : Nat) (E : Nat → Bool) (t t' : List Int) : Prop where
  inv : t'.length = t.length ∧ ∀ c, t'.getD c 0 = t.getD c 0 ∨ t'.getD c 0 = bitv (E c)
  mem : Mem w0 W' gm g s N t'
  keep : KeepBut W1 W' g none
section
variable {w0 W W1 W' W2 : World} {gm g : Nat} {s : ByteArray} {N : Nat} {E : Nat → Bool} {t t' : List Int} {b : Bool} {e : Ending}
theorem St.step (h : St w0 W1 W' gm g s N E t t') (p : Post w0 gm g s N E t' W' b e W2) : e = .returned (.bool b) ∧ ∃ t2, St w0 W1 W2 gm g s N E t t2 := by
  obtain ⟨he, t2, h1, h2, h3, h4⟩ := p
  refine ⟨he, t2, ⟨by rw [h1, h.inv.1], fun c => ?_⟩, h3, h.keep.trans h4 (.inl rfl)⟩
  rcases h2 c with e1 | e1
  · rw [e1]; exact h.inv.2 c
  · exact Or.inr e1
theorem St.post (h : St w0 W1 W' gm g s N E t t') (k : KeepBut W W1 g none) : Post w0 gm g s N E t W b (.returned (.bool b)) W' := ⟨rfl, t', h.inv.1, h.inv.2, h.mem, k.trans h.keep (.inl rfl)⟩
theorem St.cell (h : St w0 W1 W' gm g s N E t t') {a : Addr} {v : Value} (hc : W1.cell? a = some v) (hn : a.block ≠ g) : W'.cell? a = some v := keep_cell h.keep hc hn
theorem St.old (h : St w0 W1 W' gm g s N E t t') {a : Addr} {v : Value} (hc : w0.cell? a = some v) : W'.cell? a = some v := pw_cell_below h.mem.bel hc
theorem St.below (h : St w0 W1 W' gm g s N E t t') (hb : Below W'.heap.size W' W2) : St w0 W1 W2 gm g s N E t t' := ⟨h.inv, h.mem.below hb, h.keep.trans (keep_of_below g hb) (.inl rfl)⟩
theorem St.start (hm : Mem w0 W1 gm g s N t) : St w0 W1 W1 gm g s N E t t := ⟨⟨rfl, fun _ => Or.inl rfl⟩, hm, keep_of_below g (Below.refl _ _)⟩
end
theorem kid0 {w : World} {A : Option Addr} {n : Nat} {xs : List Tr} (h : Kd.C k29 w A n xs) (h1 : 0 < n) : ∃ ad A2 c2, A = some ad ∧ w.cell? ad = some (.int .i64 (rd_T29 xs 0).f0) ∧ w.cell? ⟨ad.block, ad.off + 1, none⟩ = some (.string (rd_T29 xs 0).f1) ∧ w.cell? ⟨ad.block, ad.off + 2, none⟩ = some (.slice A2 (rd_T29 xs 0).f2.length c2) ∧ (rd_T29 xs 0).f2.length ≤ c2 ∧ Kd.C k29 w A2 (rd_T29 xs 0).f2.length (rd_T29 xs 0).f2 := by
  obtain ⟨ad, A2, c2, e, h0, h2, h3, h4, h5⟩ := at_T29 h 0 (by omega) (by omega)
  rw [show ((0 : Int)).toNat = 0 from rfl, show 0 * 3 = 0 from rfl, Addr.add_zero'] at h0 h2 h3
  exact ⟨ad, A2, c2, e, h0, h2, h3, h4, h5⟩
def Kid (w0 : World) (gm g : Nat) (s : ByteArray) (N : Nat) (E : Nat → Bool) (t : List Int) (lo hi : Nat) (y : Rx) (r : Tr) (A : Option Addr) (c : Nat) (id : Int) : Prop :=
  ∀ (i j : Nat) (W : World) (t' : List Int), lo ≤ i → i ≤ j → j ≤ hi → (t'.length = t.length ∧ ∀ c, t'.getD c 0 = t.getD c 0 ∨ t'.getD c 0 = bitv (E c)) → Mem w0 W gm g s N t' →
    Calls Try.prog 80 #[.pointer (some ⟨gm, 0, none⟩), .agg #[.int .i64 r.f0, .string r.f1, .slice A r.f2.length c], .int .i64 id, .int .i64 i, .int .i64 j] W (Post w0 gm g s N E t' W (mt (bytesOf s) y i j))
def Tf5 : Bool × List (List Nat × List Nat) := (true, [([], []), ([0], [0]), ([1], [1]), ([2], [2]), ([], []), ([], []), ([3, 4, 5], [3, 4, 5]), ([], []), ([7], [7]), ([6, 8], [6, 8]), ([9, 0, 1, 2, 3, 4, 5, 6, 7, 8, 9], [9])])
def Bf5 : List Nat := [0, 1, 3, 7, 0, 0, 63, 0, 128, 511, 1023]
theorem tabf5 : rtab .any (opsOf Try.f88 5) = Tf5 := by kernel_rfl
theorem bitsf5 : waitsOk Tf5.2 Bf5 = true := by kernel_rfl
set_option maxHeartbeats 4000000 in
set_option maxRecDepth 100000 in
theorem findLeaf (w0 W : World) (gm g : Nat) (s : ByteArray) (N : Nat) (E : Nat → Bool) (t : List Int) (x : Rx) (k : Int) (l : ByteArray) (A : Option Addr) (c id i j : Nat) (hk : (k = 1 ∧ x = .none) ∨ (k = 2 ∧ x = .empty) ∨ (k = 4 ∧ x = .any)) (hi : i ≤ j) (hj : j ≤ s.size) (hs : s.size ≤ 1000) (hm : Mem w0 W gm g s N t) :
    Calls Try.prog 88 #[.pointer (some ⟨gm, 0, none⟩), .agg #[.int .i64 k, .string l, .slice A 0 c], .int .i64 id, .int .i64 i, .int .i64 j] W (Post w0 gm g s N E t W (mt (bytesOf s) x i j)) := by
  have B0 : Aside0 (Below W.heap.size W (W.alloc (Obj.cells #[.int .i64 k, .string l, .slice A 0 c] 29))) := ⟨below_alloc (Below.refl _ _) _⟩
  have HS : Aside0 (St w0 (W.alloc (Obj.cells #[.int .i64 k, .string l, .slice A 0 c] 29)) (W.alloc (Obj.cells #[.int .i64 k, .string l, .slice A 0 c] 29)) gm g s N E t t) := ⟨St.start (hm.below B0.out)⟩
  have HK := Aside0.mk (keep_of_below g B0.out)
  have hlen : (bytesOf s).length = s.size := len_bytes s
  clear hm
  rcases hk with ⟨rfl, rfl⟩ | ⟨rfl, rfl⟩ | ⟨rfl, rfl⟩
  · rw [mt_none]
    go_enter Try.func88, Try.ntmps88
    go_wp2
    go_ret
    exact HS.out.post HK.out
  · rw [mt_empty hi (by omega)]
    by_cases e : i = j
    · have e1 : ((i : Int) = (j : Int)) = True := eq_true (by omega)
      have e2 : ((i : Int) == (j : Int)) = true := beq_iff_eq.mpr (by omega)
      have e3 : decide ((i : Int) = (j : Int)) = true := decide_eq_true (by omega)
      have e4 : decide (i = j) = true := decide_eq_true e
      rw [e4]
      clear e e4 hi hj hs hlen
      go_enter Try.func88, Try.ntmps88
      go_wp2
      go_ret
      exact HS.out.post HK.out
    · have e1 : ((i : Int) = (j : Int)) = False := eq_false (by omega)
      have e2 : ((i : Int) == (j : Int)) = false := beq_eq_false_iff_ne.mpr (by omega)
      have e3 : decide ((i : Int) = (j : Int)) = false := decide_eq_false (by omega)
      have e4 : decide (i = j) = false := decide_eq_false e
      rw [e4]
      clear e e4 hi hj hs hlen
      go_enter Try.func88, Try.ntmps88
      go_wp2
      go_ret
      exact HS.out.post HK.out
  · rw [mt_any hi (by omega)]
    by_cases e : j = i + 1
    · have e1 : ((j : Int) - (i : Int) = 1) = True := eq_true (by omega)
      have e2 : ((j : Int) - (i : Int) == 1) = true := beq_iff_eq.mpr (by omega)
      have e3 : decide ((j : Int) - (i : Int) = 1) = true := decide_eq_true (by omega)
      have e4 : decide (j = i + 1) = true := decide_eq_true e
      rw [e4]
      clear e e4 hlen
      go_enter Try.func88, Try.ntmps88
      go_wp2
      go_ret
      exact HS.out.post HK.out
    · have e1 : ((j : Int) - (i : Int) = 1) = False := eq_false (by omega)
      have e2 : ((j : Int) - (i : Int) == 1) = false := beq_eq_false_iff_ne.mpr (by omega)
      have e3 : decide ((j : Int) - (i : Int) = 1) = false := decide_eq_false (by omega)
      have e4 : decide (j = i + 1) = false := decide_eq_false e
      rw [e4]
      clear e e4 hlen
      go_enter Try.func88, Try.ntmps88
      go_wp2
      go_ret
      exact HS.out.post HK.out
set_option maxHeartbeats 4000000 in
set_option maxRecDepth 100000 in
theorem findLetter (w0 W : World) (gm g : Nat) (s : ByteArray) (N : Nat) (E : Nat → Bool) (t : List Int) (l : ByteArray) (A : Option Addr) (c id i j : Nat) (hi : i ≤ j) (hj : j ≤ s.size) (hs : s.size ≤ 1000) (hm : Mem w0 W gm g s N t) :
    Calls Try.prog 88 #[.pointer (some ⟨gm, 0, none⟩), .agg #[.int .i64 3, .string l, .slice A 0 c], .int .i64 id, .int .i64 i, .int .i64 j] W (Post w0 gm g s N E t W (mt (bytesOf s) (.letter l) i j)) := by
  have B0 : Aside0 (Below W.heap.size W (W.alloc (Obj.cells #[.int .i64 3, .string l, .slice A 0 c] 29))) := ⟨below_alloc (Below.refl _ _) _⟩
  have HS : Aside0 (St w0 (W.alloc (Obj.cells #[.int .i64 3, .string l, .slice A 0 c] 29)) (W.alloc (Obj.cells #[.int .i64 3, .string l, .slice A 0 c] 29)) gm g s N E t t) := ⟨St.start (hm.below B0.out)⟩
  have HK := Aside0.mk (keep_of_below g B0.out)
  have hb0 : World.cell? (W.alloc (Obj.cells #[.int .i64 3, .string l, .slice A 0 c] 29)) ⟨gm, 0, none⟩ = some (.string s) := (blk_cell HS.out.mem.box 0).trans rfl
  have hb1 : World.cell? (W.alloc (Obj.cells #[.int .i64 3, .string l, .slice A 0 c] 29)) ⟨W.heap.size, 1, none⟩ = some (.string l) := by simp
  have p1 : ((0 : Int) ≤ (i : Int)) = True := eq_true (by omega)
  have p2 : ((i : Int) ≤ (j : Int)) = True := eq_true (by omega)
  have p3 : ((j : Int) ≤ (s.size : Int)) = True := eq_true (by omega)
  have p4 : (i ≤ j) = True := eq_true hi
  have p5 : (j ≤ s.size) = True := eq_true hj
  rw [mt_letter, show decide (s.extract i j = l) = ((s.extract i j).toList == l.toList) from by rw [Bool.eq_iff_iff, decide_eq_true_iff, beq_iff_eq, toList_iff]]
  clear hm hi hj hs
  go_enter Try.func88, Try.ntmps88
  go_wp2
  refine start_ (n := 11) (S := (fun w' => w'.cell? ⟨gm, 0, none⟩ = some (.string s) ∧ w'.cell? ⟨W.heap.size, 1, none⟩ = some (.string l))) (ds := []) #[false, false, false, false, false, false, false, false, false, false, false] (by kernel_rfl) rfl rfl (⟨hb0, hb1⟩) (fun hHeld => ?_); refine with_tabW tabf5 bitsf5 (fun HT_ HW_ => ?_)
  refine pure_ (i := 0) (N := some 25) (v := ?_) (a' := ?_) #[true, false, false, false, false, false, false, false, false, false, false] rfl rfl (any_of HT_.out (by kernel_rfl)) (fun _ _ _ h => h) (Or.inl ⟨by rfl, ?_⟩) ?_ ?_
  rotate_left
  · intro w'
    go_simp
    with_reducible rfl
  rotate_left
  · simp only [Act.put, List.setIfInBounds_toArray, List.set_cons_zero, List.set_cons_succ, i64_w, i32_w]
    rfl
  refine pure_ (i := 1) (N := some 26) (v := ?_) (a' := ?_) #[true, true, false, false, false, false, false, false, false, false, false] rfl rfl (any_of HT_.out (by kernel_rfl)) (fun _ _ _ h => h) (Or.inl ⟨by rfl, ?_⟩) ?_ ?_
  rotate_left
  · intro w'
    go_simp
    with_reducible rfl
  rotate_left
  · simp only [Act.put, List.setIfInBounds_toArray, List.set_cons_zero, List.set_cons_succ, i64_w, i32_w]
    rfl
  refine pure_ (i := 2) (N := some 27) (v := ?_) (a' := ?_) #[true, true, true, false, false, false, false, false, false, false, false] rfl rfl (any_of HT_.out (by kernel_rfl)) (fun _ _ _ h => h) (Or.inl ⟨by rfl, ?_⟩) ?_ ?_
  rotate_left
  · intro w'
    go_simp
    with_reducible rfl
  rotate_left
  · simp only [Act.put, List.setIfInBounds_toArray, List.set_cons_zero, List.set_cons_succ, i64_w, i32_w]
    rfl
  refine pure_ (i := 4) (N := some 29) (v := ?_) (a' := ?_) #[true, true, true, false, true, false, false, false, false, false, false] rfl rfl (any_of HT_.out (by kernel_rfl)) (fun _ _ _ h => h) (Or.inl ⟨by rfl, ?_⟩) ?_ ?_
  rotate_left
  · intro w'
    go_simp
    with_reducible rfl
  rotate_left
  · simp only [Act.put, List.setIfInBounds_toArray, List.set_cons_zero, List.set_cons_succ, i64_w, i32_w]
    rfl
  refine pure_ (i := 5) (N := some 30) (v := ?_) (a' := ?_) #[true, true, true, false, true, true, false, false, false, false, false] rfl rfl (any_of HT_.out (by kernel_rfl)) (fun _ _ _ h => h) (Or.inl ⟨by rfl, ?_⟩) ?_ ?_
  rotate_left
  · intro w'
    go_simp
    with_reducible rfl
  rotate_left
  · simp only [Act.put, List.setIfInBounds_toArray, List.set_cons_zero, List.set_cons_succ, i64_w, i32_w]
    rfl
  refine pure_ (i := 7) (N := some 32) (v := ?_) (a' := ?_) #[true, true, true, false, true, true, false, true, false, false, false] rfl rfl (any_of HT_.out (by kernel_rfl)) (fun _ _ _ h => h) (Or.inl ⟨by rfl, ?_⟩) ?_ ?_
  rotate_left
  · intro w'
    go_simp
    with_reducible rfl
  rotate_left
  · simp only [Act.put, List.setIfInBounds_toArray, List.set_cons_zero, List.set_cons_succ, i64_w, i32_w]
    rfl
  refine take_ (i := 3) (N := some 28) (v := ?_) (a' := ?_) #[true, true, true, true, true, true, false, true, false, false, false] rfl rfl (take_ofW HT_.out HW_.out (by kernel_rfl)) (fun _ _ _ h => h) (Or.inl ⟨by rfl, ?_⟩) hHeld ?_ ?_
  rotate_left
  · rintro w' ⟨t0, t1⟩
    go_simp
    with_reducible rfl
  rotate_left
  · simp only [Act.put, List.setIfInBounds_toArray, List.set_cons_zero, List.set_cons_succ, i64_w, i32_w]
    rfl
  refine pure_ (i := 6) (N := some 31) (v := ?_) (a' := ?_) #[true, true, true, true, true, true, true, true, false, false, false] rfl rfl (any_of HT_.out (by kernel_rfl)) (fun _ _ _ h => h) (Or.inl ⟨by rfl, ?_⟩) ?_ ?_
  rotate_left
  · intro w'
    go_simp
    with_reducible rfl
  rotate_left
  · simp only [Act.put, List.setIfInBounds_toArray, List.set_cons_zero, List.set_cons_succ, i64_w, i32_w]
    rfl
  refine take_ (i := 8) (N := some 33) (v := ?_) (a' := ?_) #[true, true, true, true, true, true, true, true, true, false, false] rfl rfl (take_ofW HT_.out HW_.out (by kernel_rfl)) (fun _ _ _ h => h) (Or.inl ⟨by rfl, ?_⟩) hHeld ?_ ?_
  rotate_left
  · rintro w' ⟨t0, t1⟩
    go_simp
    with_reducible rfl
  rotate_left
  · simp only [Act.put, List.setIfInBounds_toArray, List.set_cons_zero, List.set_cons_succ, i64_w, i32_w]
    rfl
  refine pure_ (i := 9) (N := some 34) (v := ?_) (a' := ?_) #[true, true, true, true, true, true, true, true, true, true, false] rfl rfl (any_of HT_.out (by kernel_rfl)) (fun _ _ _ h => h) (Or.inl ⟨by rfl, ?_⟩) ?_ ?_
  rotate_left
  · intro w'
    go_simp
    with_reducible rfl
  rotate_left
  · simp only [Act.put, List.setIfInBounds_toArray, List.set_cons_zero, List.set_cons_succ, i64_w, i32_w]
    rfl
  refine pure_ (i := 10) (N := some 10) (v := ?_) (a' := ?_) #[true, true, true, true, true, true, true, true, true, true, true] rfl rfl (any_of HT_.out (by kernel_rfl)) (fun _ _ _ h => h) (Or.inl ⟨by rfl, ?_⟩) ?_ ?_
  rotate_left
  · intro w'
    go_simp
    with_reducible rfl
  rotate_left
  · simp only [Act.put, List.setIfInBounds_toArray, List.set_cons_zero, List.set_cons_succ, i64_w, i32_w]
    rfl
  refine done_ (done_of HT_.out (by kernel_rfl)) ?_
  clear HT_ HW_ hHeld
  go_wp2
  go_ret
  exact (HS.out.below (below_drew1 (Below.refl _ _))).post HK.out
set_option maxHeartbeats 4000000 in
set_option maxRecDepth 100000 in
theorem findNot (w0 W : World) (gm g : Nat) (s : ByteArray) (N : Nat) (E : Nat → Bool) (t : List Int) (x : Rx) (r : Tr) (l : ByteArray) (A : Option Addr) (c id i j : Nat) (hi : i ≤ j) (hj : j ≤ s.size) (hid : id ≤ 1000) (hC : Kd.C k29 w0 A 1 [r]) (hm : Mem w0 W gm g s N t)
    (hk : ∀ A2 c2, Kd.C k29 w0 A2 r.f2.length r.f2 → Kid w0 gm g s N E t i j x r A2 c2 ((id : Int) + 1)) :
    Calls Try.prog 88 #[.pointer (some ⟨gm, 0, none⟩), .agg #[.int .i64 9, .string l, .slice A 1 c], .int .i64 id, .int .i64 i, .int .i64 j] W (Post w0 gm g s N E t W (mt (bytesOf s) (.not x) i j)) := by
  obtain ⟨ad, A2, c2, rfl, h0, h1, h2, h3, h4⟩ := kid0 hC (by omega)
  rw [show rd_T29 [r] 0 = r from rfl] at h0 h1 h2 h3 h4
  have HKD := Aside0.mk (hk A2 c2 h4)
  have B0 : Aside0 (Below W.heap.size W (W.alloc (Obj.cells #[.int .i64 9, .string l, .slice (some ad) 1 c] 29))) := ⟨below_alloc (Below.refl _ _) _⟩
  have HS : Aside0 (St w0 (W.alloc (Obj.cells #[.int .i64 9, .string l, .slice (some ad) 1 c] 29)) (W.alloc (Obj.cells #[.int .i64 9, .string l, .slice (some ad) 1 c] 29)) gm g s N E t t) := ⟨St.start (hm.below B0.out)⟩
  have HK := Aside0.mk (keep_of_below g B0.out)
  have k0 := HS.out.old h0
  have k1 := HS.out.old h1
  have k2 := HS.out.old h2
  rw [mt_not]
  have HKC := Aside0.mk (HKD.out i j _ t (Nat.le_refl _) hi (Nat.le_refl _) HS.out.inv HS.out.mem)
  generalize mt (bytesOf s) x i j = res at HKC ⊢
  have hu := Try.underlying29
  clear hm hC hk h0 h1 h2 h3 h4 HKD hi hj
  cases res
  all_goals
    go_enter Try.func88, Try.ntmps88
    go_wp2_with (go_at_call 80; (with_reducible refine HKC.out.mono ?_); rintro e w2 hp; obtain ⟨rfl, t2, hs2⟩ := HS.out.step hp; have HS2 := Aside0.mk hs2; clear hp hs2)
    go_ret
    exact HS2.out.post HK.out
set_option maxHeartbeats 4000000 in
set_option maxRecDepth 100000 in
theorem findStar (w0 W : World) (gm g : Nat) (s : ByteArray) (N : Nat) (E : Nat → Bool) (t : List Int) (x : Rx) (r : Tr) (l : ByteArray) (A : Option Addr) (c id i j : Nat) (hi : i ≤ j) (hj : j ≤ s.size) (hs : s.size ≤ 1000) (hid : id ≤ 1000) (hC : Kd.C k29 w0 A 1 [r]) (hm : Mem w0 W gm g s N t)
    (hk : ∀ A2 c2, Kd.C k29 w0 A2 r.f2.length r.f2 → Kid w0 gm g s N E t i j x r A2 c2 ((id : Int) + 1))
    (hown : ∀ k W' t', i < k → k ≤ j → (t'.length = t.length ∧ ∀ c, t'.getD c 0 = t.getD c 0 ∨ t'.getD c 0 = bitv (E c)) → Mem w0 W' gm g s N t' → Calls Try.prog 80 #[.pointer (some ⟨gm, 0, none⟩), .agg #[.int .i64 8, .string l, .slice A 1 c], .int .i64 id, .int .i64 (k : Int), .int .i64 j] W' (Post w0 gm g s N E t' W' (mt (bytesOf s) (.star x) k j))) :
    Calls Try.prog 88 #[.pointer (some ⟨gm, 0, none⟩), .agg #[.int .i64 8, .string l, .slice A 1 c], .int .i64 id, .int .i64 i, .int .i64 j] W (Post w0 gm g s N E t W (mt (bytesOf s) (.star x) i j)) := by
  have hstar := mt_star (l := bytesOf s) (x := x) hi (by rw [len_bytes]; exact hj)
  have HOWN := Aside0.mk hown
  obtain ⟨ad, A2, c2, rfl, h0, h1, h2, h3, h4⟩ := kid0 hC (by omega)
  rw [show rd_T29 [r] 0 = r from rfl] at h0 h1 h2 h3 h4
  have HKD := Aside0.mk (hk A2 c2 h4)
  have B0 : Aside0 (Below W.heap.size W (W.alloc (Obj.cells #[.int .i64 8, .string l, .slice (some ad) 1 c] 29))) := ⟨below_alloc (Below.refl _ _) _⟩
  have HS : Aside0 (St w0 (W.alloc (Obj.cells #[.int .i64 8, .string l, .slice (some ad) 1 c] 29)) (W.alloc (Obj.cells #[.int .i64 8, .string l, .slice (some ad) 1 c] 29)) gm g s N E t t) := ⟨St.start (hm.below B0.out)⟩
  have HK := Aside0.mk (keep_of_below g B0.out)
  have hu := Try.underlying29
  by_cases e : i = j
  · have e1 : ((i : Int) = (j : Int)) = True := eq_true (by omega)
    have e2 : ((i : Int) == (j : Int)) = true := beq_iff_eq.mpr (by omega)
    have e3 : decide ((i : Int) = (j : Int)) = true := decide_eq_true (by omega)
    rw [hstar.mpr (Or.inl e)]
    clear e hm hC hk hown h0 h1 h2 h3 h4 hi hj hs hid hstar HKD HOWN
    go_enter Try.func88, Try.ntmps88
    go_wp2
    go_ret
    exact HS.out.post HK.out
  · have e1 : ((i : Int) = (j : Int)) = False := eq_false (by omega)
    have e2 : ((i : Int) == (j : Int)) = false := beq_eq_false_iff_ne.mpr (by omega)
    have e3 : decide ((i : Int) = (j : Int)) = false := decide_eq_false (by omega)
    have HT : Aside0 (∀ k, i < k → k ≤ j → mt (bytesOf s) x i k = true → mt (bytesOf s) (.star x) k j = true → mt (bytesOf s) (.star x) i j = true) := ⟨fun k a1 a2 a3 a4 => hstar.mpr (Or.inr ⟨k, a1, a2, a3, a4⟩)⟩
    have HN : Aside0 ((∀ k, i < k → k ≤ j → ¬ (mt (bytesOf s) x i k = true ∧ mt (bytesOf s) (.star x) k j = true)) → mt (bytesOf s) (.star x) i j = false) := ⟨fun hh => by
      rw [← Bool.not_eq_true]
      intro ht
      rcases hstar.mp ht with h | ⟨k, a1, a2, a3, a4⟩
      · exact e h
      · exact hh k a1 a2 ⟨a3, a4⟩⟩
    have HIJ : Aside0 (i < j) := ⟨by omega⟩
    have HC0 := Aside0.mk h0
    have HC1 := Aside0.mk h1
    have HC2 := Aside0.mk h2
    have HBX : Aside0 ((W.alloc (Obj.cells #[.int .i64 8, .string l, .slice (some ad) 1 c] 29)).heap[W.heap.size]? = some (.cells #[.int .i64 8, .string l, .slice (some ad) 1 c] 29 (0, 0))) := ⟨blk_new _ _⟩
    have HNE : Aside0 (W.heap.size ≠ g) := ⟨(Nat.ne_of_lt (blk_lt hm.row)).symm⟩
    generalize mt (bytesOf s) (.star x) i j = res at HT HN ⊢
    clear e hm hC hk hown h0 h1 h2 h3 h4 hstar
    go_enter Try.func88, Try.ntmps88
    go_wp2
    go_loopg [11] (j + 2) (fun gg v11 w' => ∃ (k : Nat) (kz : Int) (t' : List Int), v11 = .int .i64 kz ∧ Aside0 (kz = (k : Int)) ∧ Aside0 (i < k ∧ k ≤ j + 1) ∧ Aside0 (j + 2 ≤ gg + k) ∧ Aside0 (∀ q, i < q → q < k → ¬ (mt (bytesOf s) x i q = true ∧ mt (bytesOf s) (.star x) q j = true)) ∧ Aside0 (St w0 (W.alloc (Obj.cells #[.int .i64 8, .string l, .slice (some ad) 1 c] 29)) w' gm g s N E t t'))
    case atStart => exact ⟨i + 1, (i : Int) + 1, t, rfl, ⟨by omega⟩, ⟨by have := HIJ.out; omega⟩, ⟨by omega⟩, ⟨fun q a1 a2 => by omega⟩, HS⟩
    case round =>
      clear HS
      obtain ⟨k, kz, t', rfl, HKZ, HKK, HG, HNO, HS⟩ := hrel
      cases gk with
      | zero => exact absurd HG.out (by have := HKK.out; omega)
      | succ gk2 =>
      by_cases hkj : k ≤ j
      · have d1 : decide (kz ≤ (j : Int)) = true := decide_eq_true (by have := HKZ.out; omega)
        have d2 : (kz ≤ (j : Int)) = True := eq_true (by have := HKZ.out; omega)
        have hw : wrap64 (kz + 1) = ((k + 1 : Nat) : Int) := by rw [HKZ.out]; exact up1 (by omega)
        have HW := Aside0.mk hw
        have k0 := HS.out.old HC0.out
        have k1 := HS.out.old HC1.out
        have k2 := HS.out.old HC2.out
        have hb0 := HS.out.cell ((blk_cell HBX.out 0).trans rfl) HNE.out
        have hb1 := HS.out.cell ((blk_cell HBX.out 1).trans rfl) HNE.out
        have hb2 := HS.out.cell ((blk_cell HBX.out 2).trans rfl) HNE.out
        have hkc := HKD.out i k _ t' (Nat.le_refl _) (by have := HKK.out; omega) hkj HS.out.inv HS.out.mem
        rw [← HKZ.out] at hkc
        have hko := fun W2 t2 => HOWN.out k W2 t2 HKK.out.1 hkj
        rw [← HKZ.out] at hko
        have HKC := Aside0.mk hkc
        have HKO := Aside0.mk hko
        have HNOT : Aside0 (mt (bytesOf s) x i k = true → mt (bytesOf s) (.star x) k j = true → res = true) := ⟨HT.out k HKK.out.1 hkj⟩
        have HNEXT : Aside0 (¬ (mt (bytesOf s) x i k = true ∧ mt (bytesOf s) (.star x) k j = true) → ∀ q, i < q → q < k + 1 → ¬ (mt (bytesOf s) x i q = true ∧ mt (bytesOf s) (.star x) q j = true)) := ⟨fun hh q a1 a2 => by
          by_cases eq : q = k
          · rw [eq]; exact hh
          · exact HNO.out q a1 (by omega)⟩
        generalize mt (bytesOf s) x i k = ra at HKC HNOT HNEXT
        generalize mt (bytesOf s) (.star x) k j = rb at HKO HNOT HNEXT
        have HKJ := Aside0.mk hkj
        clear hkc hko hw hkj
        cases ra
        · go_wp2_with ((go_at_call 80; (with_reducible refine HKC.out.mono ?_); rintro e w2 hp; obtain ⟨rfl, t2, hs2⟩ := HS.out.step hp; have HS2 := Aside0.mk hs2; (try clear hb0 hb1 hb2 k0 k1 k2); have hb0 := hs2.cell ((blk_cell HBX.out 0).trans rfl) HNE.out; have hb1 := hs2.cell ((blk_cell HBX.out 1).trans rfl) HNE.out; have hb2 := hs2.cell ((blk_cell HBX.out 2).trans rfl) HNE.out; clear hp hs2))
          go_roundg gk2
          case measure => omega
          case rel => exact ⟨k + 1, wrap64 (kz + 1), t2, rfl, HW, ⟨by have := HKK.out; have := HKJ.out; omega⟩, ⟨by have := HG.out; omega⟩, ⟨HNEXT.out (by simp)⟩, HS2⟩
        · cases rb
          · go_wp2_with (first | (go_at_call 80; (with_reducible refine HKC.out.mono ?_); rintro e w2 hp; obtain ⟨rfl, t2, hs2⟩ := HS.out.step hp; have HS2 := Aside0.mk hs2; (try clear hb0 hb1 hb2 k0 k1 k2); have hb0 := hs2.cell ((blk_cell HBX.out 0).trans rfl) HNE.out; have hb1 := hs2.cell ((blk_cell HBX.out 1).trans rfl) HNE.out; have hb2 := hs2.cell ((blk_cell HBX.out 2).trans rfl) HNE.out; clear hp hs2) | (go_at_call 80; (with_reducible refine (HKO.out _ _ HS2.out.inv HS2.out.mem).mono ?_); rintro e w3 hp; obtain ⟨rfl, t3, hs3⟩ := HS2.out.step hp; have HS3 := Aside0.mk hs3; clear hp hs3))
            go_roundg gk2
            case measure => omega
            case rel => exact ⟨k + 1, wrap64 (kz + 1), t3, rfl, HW, ⟨by have := HKK.out; have := HKJ.out; omega⟩, ⟨by have := HG.out; omega⟩, ⟨HNEXT.out (by simp)⟩, HS3⟩
          · have hres := HNOT.out rfl rfl
            subst hres
            go_wp2_with (first | (go_at_call 80; (with_reducible refine HKC.out.mono ?_); rintro e w2 hp; obtain ⟨rfl, t2, hs2⟩ := HS.out.step hp; have HS2 := Aside0.mk hs2; (try clear hb0 hb1 hb2 k0 k1 k2); have hb0 := hs2.cell ((blk_cell HBX.out 0).trans rfl) HNE.out; have hb1 := hs2.cell ((blk_cell HBX.out 1).trans rfl) HNE.out; have hb2 := hs2.cell ((blk_cell HBX.out 2).trans rfl) HNE.out; clear hp hs2) | (go_at_call 80; (with_reducible refine (HKO.out _ _ HS2.out.inv HS2.out.mem).mono ?_); rintro e w3 hp; obtain ⟨rfl, t3, hs3⟩ := HS2.out.step hp; have HS3 := Aside0.mk hs3; clear hp hs3))
            go_ret
            exact HS3.out.post HK.out
      · have d1 : decide (kz ≤ (j : Int)) = false := decide_eq_false (by have := HKZ.out; omega)
        have d2 : (kz ≤ (j : Int)) = False := eq_false (by have := HKZ.out; omega)
        have hres := HN.out (fun q a b => HNO.out q a (by omega))
        subst hres
        go_wp2
        go_ret
        exact HS.out.post HK.out
end Go.Proofs.Ytldgkgdgcfllmaa.Rg
end
