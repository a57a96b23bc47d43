/- Texts of the proof of FnExactDerivativeOf, put together. No condition. -/
import Derived.Test.YtldgkgdgcfllmaaQFnExactDerivativeOf2
import Derived.Shelf.Abstract
import Derived.Lib.Walk
import Derived.Test.YtldgkgdgcfllmaaQFnExactDerivativeOf3
section
namespace Go.Proofs.Ytldgkgdgcfllmaa.Rg
open Go.RowKit Go.Shelf Go.Proofs.Ytldgkgdgcfllmaa.P Go.Proofs.Ytldgkgdgcfllmaa.Pl Go.Proofs.YtldgkgdgcfllmaaW.PrintWords Go.Proofs.YtldgkgdgcfllmaaW.PrintLast Go.Proofs.YtldgkgdgcfllmaaW.PrintMore
set_option linter.unusedVariables false
set_option linter.unusedSimpArgs false
def bitv (b : Bool) : Int := if b then 2 else 1
def enc8 (t : List Int) : Array Value := (t.map (fun x => Value.int .i8 x)).toArray
theorem enc8_get {t : List Int} {c : Nat} (h : c < t.length) : (enc8 t)[c]? = some (.int .i8 (t.getD c 0)) := by
  unfold enc8
  simp [List.getD_eq_getElem?_getD, h]
theorem enc8_set (t : List Int) (c : Nat) (x : Int) : (enc8 t).setIfInBounds c (.int .i8 x) = enc8 (t.set c x) := by
  unfold enc8
  simp [List.map_set]
structure Mem (w0 W : World) (gm g : Nat) (s : ByteArray) (N : Nat) (t : List Int) : Prop where
  box : W.heap[gm]? = some (.cells #[.string s, .int .i64 (N : Int), .slice (some ⟨g, 0, none⟩) t.length t.length] 89 (0, 0))
  row : W.heap[g]? = some (.cells (enc8 t) 99 (0, 0))
  bel : Below w0.heap.size w0 W
  ne : gm ≠ g
  lg : w0.heap.size ≤ g
  lm : w0.heap.size ≤ gm
theorem Mem.below {w0 W W' : World} {gm g : Nat} {s : ByteArray} {N : Nat} {t : List Int} (h : Mem w0 W gm g s N t) (hb : Below W.heap.size W W') : Mem w0 W' gm g s N t := ⟨blk_below h.box hb, blk_below h.row hb, below_then h.bel h.bel.size hb, h.ne, h.lg, h.lm⟩
theorem Mem.put {w0 W : World} {gm g : Nat} {s : ByteArray} {N : Nat} {t : List Int} (h : Mem w0 W gm g s N t) (c : Nat) (x : Int) : Mem w0 (W.setCell ⟨g, c, none⟩ (.int .i8 x)) gm g s N (t.set c x) :=
  ⟨by rw [List.length_set]; exact blk_far h.box h.ne _, by rw [← enc8_set]; exact blk_set h.row c _, below_set h.bel h.lg, h.ne, h.lg, h.lm⟩
theorem Mem.cell {w0 W : World} {gm g : Nat} {s : ByteArray} {N : Nat} {t : List Int} (h : Mem w0 W gm g s N t) {c : Nat} (hc : c < t.length) : W.cell? ⟨g, c, none⟩ = some (.int .i8 (t.getD c 0)) := (blk_cell h.row c).trans (enc8_get hc)
def Ok (E : Nat → Bool) (t : List Int) (c : Nat) : Prop := t.getD c 0 = 0 ∨ t.getD c 0 = bitv (E c)
def Reg (N id n i j c : Nat) : Prop := ∃ q a b, id ≤ q ∧ q < id + n ∧ i ≤ a ∧ a ≤ b ∧ b ≤ j ∧ c = fl N q a b
def Post (w0 : World) (gm g : Nat) (s : ByteArray) (N : Nat) (E : Nat → Bool) (t : List Int) (W : World) (r : Bool) (e : Ending) (W' : World) : Prop :=
  e = .returned (.bool r) ∧ ∃ t', t'.length = t.length ∧ (∀ c, t'.getD c 0 = t.getD c 0 ∨ t'.getD c 0 = bitv (E c)) ∧ Mem w0 W' gm g s N t' ∧ KeepBut W W' g none
def Agr (l : List Int) (N : Nat) (E : Nat → Bool) : Rx → Nat → Prop
  | .cat x y, id => (∀ i j, i ≤ j → j < N → E (fl N id i j) = mt l (.cat x y) i j) ∧ Agr l N E x (id + 1) ∧ Agr l N E y (id + 1 + sz x)
  | .or x y, id => (∀ i j, i ≤ j → j < N → E (fl N id i j) = mt l (.or x y) i j) ∧ Agr l N E x (id + 1) ∧ Agr l N E y (id + 1 + sz x)
  | .and x y, id => (∀ i j, i ≤ j → j < N → E (fl N id i j) = mt l (.and x y) i j) ∧ Agr l N E x (id + 1) ∧ Agr l N E y (id + 1 + sz x)
  | .star x, id => (∀ i j, i ≤ j → j < N → E (fl N id i j) = mt l (.star x) i j) ∧ Agr l N E x (id + 1)
  | .not x, id => (∀ i j, i ≤ j → j < N → E (fl N id i j) = mt l (.not x) i j) ∧ Agr l N E x (id + 1)
  | .none, id => ∀ i j, i ≤ j → j < N → E (fl N id i j) = mt l .none i j
  | .empty, id => ∀ i j, i ≤ j → j < N → E (fl N id i j) = mt l .empty i j
  | .letter c, id => ∀ i j, i ≤ j → j < N → E (fl N id i j) = mt l (.letter c) i j
  | .any, id => ∀ i j, i ≤ j → j < N → E (fl N id i j) = mt l .any i j
theorem Agr.own {l : List Int} {N : Nat} {E : Nat → Bool} {x : Rx} {id : Nat} (h : Agr l N E x id) {i j : Nat} (hi : i ≤ j) (hj : j < N) : E (fl N id i j) = mt l x i j := by
  cases x <;> first | exact h.1 i j hi hj | exact h i j hi hj
theorem keep_of_below {w w' : World} (g : Nat) (h : Below w.heap.size w w') : KeepBut w w' g none := ⟨h.size, fun i hi _ _ => h.block i hi⟩
theorem getD_set {t : List Int} {p c : Nat} {x : Int} (h : p < t.length) : (t.set p x).getD c 0 = if c = p then x else t.getD c 0 := by
  rw [List.getD_eq_getElem?_getD, List.getD_eq_getElem?_getD, List.getElem?_set]
  by_cases e : p = c
  · subst e
    simp [h]
  · rw [if_neg e, if_neg (fun e2 => e e2.symm)]
theorem postC {t t' : List Int} {E : Nat → Bool} {p : Nat} {b : Bool} (hp : p < t.length) (hx : ∀ c, t'.getD c 0 = (t.set p 1).getD c 0 ∨ t'.getD c 0 = bitv (E c)) (hv : t'.getD p 0 = bitv b) (hE : E p = b) : ∀ c, t'.getD c 0 = t.getD c 0 ∨ t'.getD c 0 = bitv (E c) := fun c => by
  by_cases e : c = p
  · subst e
    rw [hE]
    exact Or.inr hv
  · have := hx c
    rw [getD_set hp, if_neg e] at this
    exact this
theorem postT {t t' : List Int} {E : Nat → Bool} {p : Nat} (hp : p < t.length) (hl : t'.length = t.length) (hx : ∀ c, t'.getD c 0 = (t.set p 1).getD c 0 ∨ t'.getD c 0 = bitv (E c)) (hE : E p = true) : ∀ c, (t'.set p 2).getD c 0 = t.getD c 0 ∨ (t'.set p 2).getD c 0 = bitv (E c) := fun c => by
  rw [getD_set (by omega)]
  by_cases e : c = p
  · subst e
    rw [hE, if_pos rfl]
    exact Or.inr rfl
  · have := hx c
    rw [getD_set hp, if_neg e] at this
    rw [if_neg e]
    exact this
def Tm1 : Bool × List (List Nat × List Nat) := (true, [([], []), ([], []), ([1], [1]), ([2], [2]), ([3], [3]), ([0, 4], [0, 4]), ([], []), ([5, 6], [5, 6]), ([], []), ([8], [8]), ([9], [9]), ([10], [10]), ([7, 11], [7, 11]), ([], []), ([12, 13], [12, 13]), ([14, 0, 1, 2, 3, 4, 5, 6, 7, 8, 9, 10, 11, 12, 13, 14], [14])])
def Bm1 : List Nat := [0, 0, 2, 6, 14, 31, 0, 127, 0, 256, 768, 1792, 4095, 0, 16383, 32767]
theorem tabm1 : rtab .any (opsOf Try.f80 1) = Tm1 := by kernel_rfl
theorem bitsm1 : waitsOk Tm1.2 Bm1 = true := by kernel_rfl
theorem wr_ {n : Int} (h0 : -9223372036854775808 ≤ n) (h1 : n ≤ 9223372036854775807) : IntKind.i64.wrap n = n := by rw [IntKind.wrap_i64]; omega
set_option maxHeartbeats 4000000 in
set_option maxRecDepth 100000 in
theorem matchStep (w0 W : World) (gm g : Nat) (s : ByteArray) (N T : Nat) (E : Nat → Bool) (t : List Int) (x : Rx) (r : Tr) (A : Option Addr) (c id i j : Nat) (hN : N = s.size + 1) (hN2 : N ≤ 1000) (hT : T ≤ 1000) (hid : id < T) (hi : i ≤ j) (hj : j ≤ s.size) (ht : t.length = T * N * N) (hm : Mem w0 W gm g s N t)
    (hE : E (fl N id i j) = mt (bytesOf s) x i j) (hok : Ok E t (fl N id i j))
    (hf : t.getD (fl N id i j) 0 = 0 → ∀ W1, Mem w0 W1 gm g s N (t.set (fl N id i j) 1) → Calls Try.prog 88 #[.pointer (some ⟨gm, 0, none⟩), .agg #[.int .i64 r.f0, .string r.f1, .slice A r.f2.length c], .int .i64 id, .int .i64 i, .int .i64 j] W1 (Post w0 gm g s N E (t.set (fl N id i j) 1) W1 (mt (bytesOf s) x i j))) :
    Calls Try.prog 80 #[.pointer (some ⟨gm, 0, none⟩), .agg #[.int .i64 r.f0, .string r.f1, .slice A r.f2.length c], .int .i64 id, .int .i64 i, .int .i64 j] W (Post w0 gm g s N E t W (mt (bytesOf s) x i j)) := by
  have hlt : fl N id i j < t.length := by rw [ht]; exact fl_lt hid (by omega) (by omega)
  have HF := am_ hf
  have HM := am_ hm
  have hcell := hm.cell hlt
  obtain ⟨p1, hp1⟩ : ∃ p, p = id * N := ⟨_, rfl⟩
  obtain ⟨p2, hp2⟩ : ∃ p, p = p1 + i := ⟨_, rfl⟩
  obtain ⟨p3, hp3⟩ : ∃ p, p = p2 * N := ⟨_, rfl⟩
  obtain ⟨p4, hp4⟩ : ∃ p, p = p3 + j := ⟨_, rfl⟩
  have hfl : fl N id i j = p4 := by unfold fl; rw [hp4, hp3, hp2, hp1]
  have b1 : p1 ≤ 1000 * 1000 := by rw [hp1]; exact Nat.mul_le_mul (by omega) (by omega)
  have b3 : p3 ≤ 1001000 * 1000 := by rw [hp3]; exact Nat.mul_le_mul (by omega) (by omega)
  have m1 : IntKind.i64.wrap ((id : Int) * (N : Int)) = (p1 : Int) := by rw [← Int.natCast_mul, ← hp1]; exact wr_ (by omega) (by omega)
  have m2 : IntKind.i64.wrap ((p1 : Int) + (i : Int)) = (p2 : Int) := by rw [wr_ (by omega) (by omega)]; omega
  have m3 : IntKind.i64.wrap ((p2 : Int) * (N : Int)) = (p3 : Int) := by rw [← Int.natCast_mul, ← hp3]; exact wr_ (by omega) (by omega)
  have m4 : IntKind.i64.wrap ((p3 : Int) + (j : Int)) = (p4 : Int) := by rw [wr_ (by omega) (by omega)]; omega
  rw [hfl] at HF hE hok hlt hcell
  have HL := am_ hlt
  have HE := am_ hE
  have HOK := am_ hok
  have q1 : ((0 : Int) ≤ (p4 : Int)) = True := eq_true (by omega)
  have q2 : ((p4 : Int) < (t.length : Int)) = True := eq_true (by omega)
  have q2n : (p4 < t.length) = True := eq_true hlt
  have B0 : Aside0 (Below W.heap.size W (W.alloc (Obj.cells #[.int .i64 r.f0, .string r.f1, .slice A r.f2.length c] 29))) := ⟨below_alloc (Below.refl _ _) _⟩
  have hb1 : World.cell? (W.alloc (Obj.cells #[.int .i64 r.f0, .string r.f1, .slice A r.f2.length c] 29)) ⟨gm, 1, none⟩ = some (.int .i64 (N : Int)) := pw_cell_below B0.out ((blk_cell hm.box 1).trans rfl)
  have hb2 : World.cell? (W.alloc (Obj.cells #[.int .i64 r.f0, .string r.f1, .slice A r.f2.length c] 29)) ⟨gm, 2, none⟩ = some (.slice (some ⟨g, 0, none⟩) t.length t.length) := pw_cell_below B0.out ((blk_cell hm.box 2).trans rfl)
  have hb3 := pw_cell_below B0.out hcell
  clear hf hm hcell hfl hp1 hp2 hp3 hp4 b1 b3 hE hok hlt ht hi hj hN hN2 hT hid
  obtain ⟨v, hv⟩ : ∃ v, v = t.getD p4 0 := ⟨_, rfl⟩
  unfold Ok at HOK
  rw [← hv] at HF HOK hb3
  generalize mt (bytesOf s) x i j = res at HF HE ⊢
  rcases HOK.out with h0 | h0
  · rw [h0] at HF hb3
    have HF1 := am_ (fun W1 => HF.out rfl W1)
    clear HOK HF
    have HMD := am_ (HM.out.below B0.out)
    have HM1 := am_ ((HMD.out.put p4 1).below (below_drew1 (Below.refl _ _)))
    have hcz := HMD.out.cell HL.out
    rw [← hv, h0] at hcz
    clear hv h0
    have hnb : g ≠ W.heap.size := Nat.ne_of_lt (blk_lt HM.out.row)
    have hnc : W.heap.size ≠ g := hnb.symm
    have hfz := blk_frozen HMD.out.row p4
    have hb2d := (blk_cell HM1.out.box 2).trans rfl
    have HKP : Aside0 (KeepBut W ((W.alloc (Obj.cells #[.int .i64 r.f0, .string r.f1, .slice A r.f2.length c] 29)).setCell ⟨g, p4, none⟩ (.int .i8 1)).drew g none) := ⟨keep_drew (KeepBut.set_ (keep_of_below g B0.out) p4 _)⟩
    cases res
    · go_enter Try.func80, Try.ntmps80
      go_wp2
      refine start_ (n := 16) (S := (fun w' => w'.cell? ⟨gm, 1, none⟩ = some (.int .i64 (N : Int)))) (ds := []) (bl 16 0) (by kernel_rfl) rfl rfl (hb1) (fun hHeld => ?_); refine with_tabW tabm1 bitsm1 (fun HT_ HW_ => ?_)
      refine ph_ 0 12 (bl 16 1) HT_ ?_
      refine ph_ 1 13 (bl 16 3) HT_ ?_
      refine ph_ 2 14 (bl 16 7) HT_ ?_
      refine ph_ 3 15 (bl 16 15) HT_ ?_
      refine ph_ 6 18 (bl 16 79) HT_ ?_
      refine ph_ 8 20 (bl 16 335) HT_ ?_
      refine ph_ 9 21 (bl 16 847) HT_ ?_
      refine ph_ 10 22 (bl 16 1871) HT_ ?_
      refine ph_ 13 25 (bl 16 10063) HT_ ?_
      refine th_ 4 16 (bl 16 10079) HT_ HW_ hHeld ?_
      refine ph_ 5 17 (bl 16 10111) HT_ ?_
      refine ph_ 7 19 (bl 16 10239) HT_ ?_
      refine th_ 11 23 (bl 16 12287) HT_ HW_ hHeld ?_
      refine ph_ 12 24 (bl 16 16383) HT_ ?_
      refine ph_ 14 26 (bl 16 32767) HT_ ?_
      refine ph_ 15 11 (bl 16 65535) HT_ ?_
      refine done_ (done_of HT_.out (by kernel_rfl)) ?_
      clear HT_ HW_ hHeld
      go_wp2_with (go_at_call 88; (with_reducible refine (HF1.out _ HM1.out).mono ?_); rintro e w2 ⟨rfl, t', hl, hx, hm, hk⟩; rw [List.length_set] at hl; have HM2 := am_ hm; have HX := am_ hx; have HK2 := am_ hk; have HL2 := am_ hl; have hv : t'.getD p4 0 = 1 := (by rcases hx p4 with h | h; { rw [h, getD_set HL.out, if_pos rfl] }; { rw [h, HE.out]; rfl }); have hc6 := hm.cell (c := p4) (by rw [hl]; exact HL.out); rw [hv] at hc6; have HV := am_ hv; have hb6 : World.cell? w2 ⟨gm, 2, none⟩ = some (.slice (some ⟨g, 0, none⟩) t'.length t'.length) := (blk_cell hm.box 2).trans rfl; rw [hl] at hb6; clear hl hx hm hk hv)
      go_ret
      exact ⟨rfl, t', HL2.out, postC (b := false) HL.out HX.out HV.out HE.out, HM2.out, HKP.out.trans HK2.out (.inl rfl)⟩
    · go_enter Try.func80, Try.ntmps80
      go_wp2
      refine start_ (n := 16) (S := (fun w' => w'.cell? ⟨gm, 1, none⟩ = some (.int .i64 (N : Int)))) (ds := []) (bl 16 0) (by kernel_rfl) rfl rfl (hb1) (fun hHeld => ?_); refine with_tabW tabm1 bitsm1 (fun HT_ HW_ => ?_)
      refine ph_ 0 12 (bl 16 1) HT_ ?_
      refine ph_ 1 13 (bl 16 3) HT_ ?_
      refine ph_ 2 14 (bl 16 7) HT_ ?_
      refine ph_ 3 15 (bl 16 15) HT_ ?_
      refine ph_ 6 18 (bl 16 79) HT_ ?_
      refine ph_ 8 20 (bl 16 335) HT_ ?_
      refine ph_ 9 21 (bl 16 847) HT_ ?_
      refine ph_ 10 22 (bl 16 1871) HT_ ?_
      refine ph_ 13 25 (bl 16 10063) HT_ ?_
      refine th_ 4 16 (bl 16 10079) HT_ HW_ hHeld ?_
      refine ph_ 5 17 (bl 16 10111) HT_ ?_
      refine ph_ 7 19 (bl 16 10239) HT_ ?_
      refine th_ 11 23 (bl 16 12287) HT_ HW_ hHeld ?_
      refine ph_ 12 24 (bl 16 16383) HT_ ?_
      refine ph_ 14 26 (bl 16 32767) HT_ ?_
      refine ph_ 15 11 (bl 16 65535) HT_ ?_
      refine done_ (done_of HT_.out (by kernel_rfl)) ?_
      clear HT_ HW_ hHeld
      go_wp2_with (go_at_call 88; (with_reducible refine (HF1.out _ HM1.out).mono ?_); rintro e w2 ⟨rfl, t', hl, hx, hm, hk⟩; rw [List.length_set] at hl; have HM2 := am_ hm; have HX := am_ hx; have HK2 := am_ hk; have HL2 := am_ hl; have hc6 := hm.cell (c := p4) (by rw [hl]; exact HL.out); have hfz6 := blk_frozen hm.row p4; have hng := hm.ne; have hnh := hm.ne.symm; have hb6 : World.cell? w2 ⟨gm, 2, none⟩ = some (.slice (some ⟨g, 0, none⟩) t'.length t'.length) := (blk_cell hm.box 2).trans rfl; rw [hl] at hb6; clear hl hx hm hk)
      go_ret
      exact ⟨rfl, t'.set p4 2, by rw [List.length_set]; exact HL2.out, postT HL.out HL2.out HX.out HE.out, HM2.out.put p4 2, (HKP.out.trans HK2.out (.inl rfl)).set_ p4 _⟩
  · rw [HE.out] at h0
    have h0 : v = if res then 2 else 1 := h0
    cases res <;> simp only [if_true, Bool.false_eq_true, if_false] at h0 <;> rw [h0] at HF hb3 <;> clear h0 HOK hv
    all_goals
      go_enter Try.func80, Try.ntmps80
      go_wp2
      refine start_ (n := 16) (S := (fun w' => w'.cell? ⟨gm, 1, none⟩ = some (.int .i64 (N : Int)))) (ds := []) (bl 16 0) (by kernel_rfl) rfl rfl (hb1) (fun hHeld => ?_); refine with_tabW tabm1 bitsm1 (fun HT_ HW_ => ?_)
      refine ph_ 0 12 (bl 16 1) HT_ ?_
      refine ph_ 1 13 (bl 16 3) HT_ ?_
      refine ph_ 2 14 (bl 16 7) HT_ ?_
      refine ph_ 3 15 (bl 16 15) HT_ ?_
      refine ph_ 6 18 (bl 16 79) HT_ ?_
      refine ph_ 8 20 (bl 16 335) HT_ ?_
      refine ph_ 9 21 (bl 16 847) HT_ ?_
      refine ph_ 10 22 (bl 16 1871) HT_ ?_
      refine ph_ 13 25 (bl 16 10063) HT_ ?_
      refine th_ 4 16 (bl 16 10079) HT_ HW_ hHeld ?_
      refine ph_ 5 17 (bl 16 10111) HT_ ?_
      refine ph_ 7 19 (bl 16 10239) HT_ ?_
      refine th_ 11 23 (bl 16 12287) HT_ HW_ hHeld ?_
      refine ph_ 12 24 (bl 16 16383) HT_ ?_
      refine ph_ 14 26 (bl 16 32767) HT_ ?_
      refine ph_ 15 11 (bl 16 65535) HT_ ?_
      refine done_ (done_of HT_.out (by kernel_rfl)) ?_
      clear HT_ HW_ hHeld
      have BD : Aside0 (Below W.heap.size W (W.alloc (Obj.cells #[.int .i64 r.f0, .string r.f1, .slice A r.f2.length c] 29)).drew) := ⟨below_drew1 B0.out⟩
      have hb2d := pw_cell_below BD.out ((blk_cell HM.out.box 2).trans rfl)
      go_wp2
      go_ret
      exact ⟨rfl, t, rfl, fun _ => Or.inl rfl, HM.out.below BD.out, keep_of_below g BD.out⟩
structure St (w0 W1 W' : World) (gm g : Nat) (s : ByteArray) (N : Nat) (E : Nat → Bool) (t t' : List Int) : Prop where
  inv : t'.length = t.length ∧ ∀ c, t'.getD c 0 = t.getD c 0 ∨ t'.getD c 0 = bitv (E c)
  mem : Mem w0 W' gm g s N t'
  keep : KeepBut W1 W' g none
section
variable {w0 W W1 W' W2 : World} {gm g : Nat} {s : ByteArray} {N : Nat} {E : Nat → Bool} {t t' : List Int} {b : Bool} {e : Ending}
theorem St.step (h : St w0 W1 W' gm g s N E t t') (p : Post w0 gm g s N E t' W' b e W2) : e = .returned (.bool b) ∧ ∃ t2, St w0 W1 W2 gm g s N E t t2 := by
  obtain ⟨he, t2, h1, h2, h3, h4⟩ := p
  refine ⟨he, t2, ⟨by rw [h1, h.inv.1], fun c => ?_⟩, h3, h.keep.trans h4 (.inl rfl)⟩
  rcases h2 c with e1 | e1
  · rw [e1]; exact h.inv.2 c
  · exact Or.inr e1
theorem St.post (h : St w0 W1 W' gm g s N E t t') (k : KeepBut W W1 g none) : Post w0 gm g s N E t W b (.returned (.bool b)) W' := ⟨rfl, t', h.inv.1, h.inv.2, h.mem, k.trans h.keep (.inl rfl)⟩
theorem St.cell (h : St w0 W1 W' gm g s N E t t') {a : Addr} {v : Value} (hc : W1.cell? a = some v) (hn : a.block ≠ g) : W'.cell? a = some v := keep_cell h.keep hc hn
theorem St.old (h : St w0 W1 W' gm g s N E t t') {a : Addr} {v : Value} (hc : w0.cell? a = some v) : W'.cell? a = some v := pw_cell_below h.mem.bel hc
theorem St.below (h : St w0 W1 W' gm g s N E t t') (hb : Below W'.heap.size W' W2) : St w0 W1 W2 gm g s N E t t' := ⟨h.inv, h.mem.below hb, h.keep.trans (keep_of_below g hb) (.inl rfl)⟩
theorem St.start (hm : Mem w0 W1 gm g s N t) : St w0 W1 W1 gm g s N E t t := ⟨⟨rfl, fun _ => Or.inl rfl⟩, hm, keep_of_below g (Below.refl _ _)⟩
end
theorem kid0 {w : World} {A : Option Addr} {n : Nat} {xs : List Tr} (h : Kd.C k29 w A n xs) (h1 : 0 < n) : ∃ ad A2 c2, A = some ad ∧ w.cell? ad = some (.int .i64 (rd_T29 xs 0).f0) ∧ w.cell? ⟨ad.block, ad.off + 1, none⟩ = some (.string (rd_T29 xs 0).f1) ∧ w.cell? ⟨ad.block, ad.off + 2, none⟩ = some (.slice A2 (rd_T29 xs 0).f2.length c2) ∧ (rd_T29 xs 0).f2.length ≤ c2 ∧ Kd.C k29 w A2 (rd_T29 xs 0).f2.length (rd_T29 xs 0).f2 := by
  obtain ⟨ad, A2, c2, e, h0, h2, h3, h4, h5⟩ := at_T29 h 0 (by omega) (by omega)
  rw [show ((0 : Int)).toNat = 0 from rfl, show 0 * 3 = 0 from rfl, Addr.add_zero'] at h0 h2 h3
  exact ⟨ad, A2, c2, e, h0, h2, h3, h4, h5⟩
def Kid (w0 : World) (gm g : Nat) (s : ByteArray) (N : Nat) (E : Nat → Bool) (t : List Int) (lo hi : Nat) (y : Rx) (r : Tr) (A : Option Addr) (c : Nat) (id : Int) : Prop :=
  ∀ (i j : Nat) (W : World) (t' : List Int), lo ≤ i → i ≤ j → j ≤ hi → (t'.length = t.length ∧ ∀ c, t'.getD c 0 = t.getD c 0 ∨ t'.getD c 0 = bitv (E c)) → Mem w0 W gm g s N t' →
    Calls Try.prog 80 #[.pointer (some ⟨gm, 0, none⟩), .agg #[.int .i64 r.f0, .string r.f1, .slice A r.f2.length c], .int .i64 id, .int .i64 i, .int .i64 j] W (Post w0 gm g s N E t' W (mt (bytesOf s) y i j))
def Tf5 : Bool × List (List Nat × List Nat) := (true, [([], []), ([0], [0]), ([1], [1]), ([2], [2]), ([], []), ([], []), ([3, 4, 5], [3, 4, 5]), ([], []), ([7], [7]), ([6, 8], [6, 8]), ([9, 0, 1, 2, 3, 4, 5, 6, 7, 8, 9], [9])])
def Bf5 : List Nat := [0, 1, 3, 7, 0, 0, 63, 0, 128, 511, 1023]
theorem tabf5 : rtab .any (opsOf Try.f88 5) = Tf5 := by kernel_rfl
theorem bitsf5 : waitsOk Tf5.2 Bf5 = true := by kernel_rfl
set_option maxHeartbeats 4000000 in
set_option maxRecDepth 100000 in
theorem findLeaf (w0 W : World) (gm g : Nat) (s : ByteArray) (N : Nat) (E : Nat → Bool) (t : List Int) (x : Rx) (k : Int) (l : ByteArray) (A : Option Addr) (c id i j : Nat) (hk : (k = 1 ∧ x = .none) ∨ (k = 2 ∧ x = .empty) ∨ (k = 4 ∧ x = .any)) (hi : i ≤ j) (hj : j ≤ s.size) (hs : s.size ≤ 1000) (hm : Mem w0 W gm g s N t) :
    Calls Try.prog 88 #[.pointer (some ⟨gm, 0, none⟩), .agg #[.int .i64 k, .string l, .slice A 0 c], .int .i64 id, .int .i64 i, .int .i64 j] W (Post w0 gm g s N E t W (mt (bytesOf s) x i j)) := by
  have B0 : Aside0 (Below W.heap.size W (W.alloc (Obj.cells #[.int .i64 k, .string l, .slice A 0 c] 29))) := ⟨below_alloc (Below.refl _ _) _⟩
  have HS : Aside0 (St w0 (W.alloc (Obj.cells #[.int .i64 k, .string l, .slice A 0 c] 29)) (W.alloc (Obj.cells #[.int .i64 k, .string l, .slice A 0 c] 29)) gm g s N E t t) := ⟨St.start (hm.below B0.out)⟩
  have HK := am_ (keep_of_below g B0.out)
  have hlen : (bytesOf s).length = s.size := len_bytes s
  clear hm
  rcases hk with ⟨rfl, rfl⟩ | ⟨rfl, rfl⟩ | ⟨rfl, rfl⟩
  · rw [mt_none]
    go_enter Try.func88, Try.ntmps88
    go_wp2
    go_ret
    exact HS.out.post HK.out
  · rw [mt_empty hi (by omega)]
    by_cases e : i = j
    · have e1 : ((i : Int) = (j : Int)) = True := eq_true (by omega)
      have e2 : ((i : Int) == (j : Int)) = true := beq_iff_eq.mpr (by omega)
      have e3 : decide ((i : Int) = (j : Int)) = true := decide_eq_true (by omega)
      have e4 : decide (i = j) = true := decide_eq_true e
      rw [e4]
      clear e e4 hi hj hs hlen
      go_enter Try.func88, Try.ntmps88
      go_wp2
      go_ret
      exact HS.out.post HK.out
    · have e1 : ((i : Int) = (j : Int)) = False := eq_false (by omega)
      have e2 : ((i : Int) == (j : Int)) = false := beq_eq_false_iff_ne.mpr (by omega)
      have e3 : decide ((i : Int) = (j : Int)) = false := decide_eq_false (by omega)
      have e4 : decide (i = j) = false := decide_eq_false e
      rw [e4]
      clear e e4 hi hj hs hlen
      go_enter Try.func88, Try.ntmps88
      go_wp2
      go_ret
      exact HS.out.post HK.out
  · rw [mt_any hi (by omega)]
    by_cases e : j = i + 1
    · have e1 : ((j : Int) - (i : Int) = 1) = True := eq_true (by omega)
      have e2 : ((j : Int) - (i : Int) == 1) = true := beq_iff_eq.mpr (by omega)
      have e3 : decide ((j : Int) - (i : Int) = 1) = true := decide_eq_true (by omega)
      have e4 : decide (j = i + 1) = true := decide_eq_true e
      rw [e4]
      clear e e4 hlen
      go_enter Try.func88, Try.ntmps88
      go_wp2
      go_ret
      exact HS.out.post HK.out
    · have e1 : ((j : Int) - (i : Int) = 1) = False := eq_false (by omega)
      have e2 : ((j : Int) - (i : Int) == 1) = false := beq_eq_false_iff_ne.mpr (by omega)
      have e3 : decide ((j : Int) - (i : Int) = 1) = false := decide_eq_false (by omega)
      have e4 : decide (j = i + 1) = false := decide_eq_false e
      rw [e4]
      clear e e4 hlen
      go_enter Try.func88, Try.ntmps88
      go_wp2
      go_ret
      exact HS.out.post HK.out
set_option maxHeartbeats 4000000 in
set_option maxRecDepth 100000 in
theorem findLetter (w0 W : World) (gm g : Nat) (s : ByteArray) (N : Nat) (E : Nat → Bool) (t : List Int) (l : ByteArray) (A : Option Addr) (c id i j : Nat) (hi : i ≤ j) (hj : j ≤ s.size) (hs : s.size ≤ 1000) (hm : Mem w0 W gm g s N t) :
    Calls Try.prog 88 #[.pointer (some ⟨gm, 0, none⟩), .agg #[.int .i64 3, .string l, .slice A 0 c], .int .i64 id, .int .i64 i, .int .i64 j] W (Post w0 gm g s N E t W (mt (bytesOf s) (.letter l) i j)) := by
  have B0 : Aside0 (Below W.heap.size W (W.alloc (Obj.cells #[.int .i64 3, .string l, .slice A 0 c] 29))) := ⟨below_alloc (Below.refl _ _) _⟩
  have HS : Aside0 (St w0 (W.alloc (Obj.cells #[.int .i64 3, .string l, .slice A 0 c] 29)) (W.alloc (Obj.cells #[.int .i64 3, .string l, .slice A 0 c] 29)) gm g s N E t t) := ⟨St.start (hm.below B0.out)⟩
  have HK := am_ (keep_of_below g B0.out)
  have hb0 : World.cell? (W.alloc (Obj.cells #[.int .i64 3, .string l, .slice A 0 c] 29)) ⟨gm, 0, none⟩ = some (.string s) := (blk_cell HS.out.mem.box 0).trans rfl
  have hb1 : World.cell? (W.alloc (Obj.cells #[.int .i64 3, .string l, .slice A 0 c] 29)) ⟨W.heap.size, 1, none⟩ = some (.string l) := by simp
  have p1 : ((0 : Int) ≤ (i : Int)) = True := eq_true (by omega)
  have p2 : ((i : Int) ≤ (j : Int)) = True := eq_true (by omega)
  have p3 : ((j : Int) ≤ (s.size : Int)) = True := eq_true (by omega)
  have p4 : (i ≤ j) = True := eq_true hi
  have p5 : (j ≤ s.size) = True := eq_true hj
  rw [mt_letter, show decide (s.extract i j = l) = ((s.extract i j).toList == l.toList) from by rw [Bool.eq_iff_iff, decide_eq_true_iff, beq_iff_eq, toList_iff]]
  clear hm hi hj hs
  go_enter Try.func88, Try.ntmps88
  go_wp2
  refine start_ (n := 11) (S := (fun w' => w'.cell? ⟨gm, 0, none⟩ = some (.string s) ∧ w'.cell? ⟨W.heap.size, 1, none⟩ = some (.string l))) (ds := []) (bl 11 0) (by kernel_rfl) rfl rfl (⟨hb0, hb1⟩) (fun hHeld => ?_); refine with_tabW tabf5 bitsf5 (fun HT_ HW_ => ?_)
  refine ph_ 0 25 (bl 11 1) HT_ ?_
  refine ph_ 1 26 (bl 11 3) HT_ ?_
  refine ph_ 2 27 (bl 11 7) HT_ ?_
  refine ph_ 4 29 (bl 11 23) HT_ ?_
  refine ph_ 5 30 (bl 11 55) HT_ ?_
  refine ph_ 7 32 (bl 11 183) HT_ ?_
  refine th_ 3 28 (bl 11 191) HT_ HW_ hHeld ?_
  refine ph_ 6 31 (bl 11 255) HT_ ?_
  refine th_ 8 33 (bl 11 511) HT_ HW_ hHeld ?_
  refine ph_ 9 34 (bl 11 1023) HT_ ?_
  refine ph_ 10 10 (bl 11 2047) HT_ ?_
  refine done_ (done_of HT_.out (by kernel_rfl)) ?_
  clear HT_ HW_ hHeld
  go_wp2
  go_ret
  exact (HS.out.below (below_drew1 (Below.refl _ _))).post HK.out
set_option maxHeartbeats 4000000 in
set_option maxRecDepth 100000 in
theorem findNot (w0 W : World) (gm g : Nat) (s : ByteArray) (N : Nat) (E : Nat → Bool) (t : List Int) (x : Rx) (r : Tr) (l : ByteArray) (A : Option Addr) (c id i j : Nat) (hi : i ≤ j) (hj : j ≤ s.size) (hid : id ≤ 1000) (hC : Kd.C k29 w0 A 1 [r]) (hm : Mem w0 W gm g s N t)
    (hk : ∀ A2 c2, Kd.C k29 w0 A2 r.f2.length r.f2 → Kid w0 gm g s N E t i j x r A2 c2 ((id : Int) + 1)) :
    Calls Try.prog 88 #[.pointer (some ⟨gm, 0, none⟩), .agg #[.int .i64 9, .string l, .slice A 1 c], .int .i64 id, .int .i64 i, .int .i64 j] W (Post w0 gm g s N E t W (mt (bytesOf s) (.not x) i j)) := by
  obtain ⟨ad, A2, c2, rfl, h0, h1, h2, h3, h4⟩ := kid0 hC (by omega)
  rw [show rd_T29 [r] 0 = r from rfl] at h0 h1 h2 h3 h4
  have HKD := am_ (hk A2 c2 h4)
  have B0 : Aside0 (Below W.heap.size W (W.alloc (Obj.cells #[.int .i64 9, .string l, .slice (some ad) 1 c] 29))) := ⟨below_alloc (Below.refl _ _) _⟩
  have HS : Aside0 (St w0 (W.alloc (Obj.cells #[.int .i64 9, .string l, .slice (some ad) 1 c] 29)) (W.alloc (Obj.cells #[.int .i64 9, .string l, .slice (some ad) 1 c] 29)) gm g s N E t t) := ⟨St.start (hm.below B0.out)⟩
  have HK := am_ (keep_of_below g B0.out)
  have k0 := HS.out.old h0
  have k1 := HS.out.old h1
  have k2 := HS.out.old h2
  rw [mt_not]
  have HKC := am_ (HKD.out i j _ t (Nat.le_refl _) hi (Nat.le_refl _) HS.out.inv HS.out.mem)
  generalize mt (bytesOf s) x i j = res at HKC ⊢
  have hu := Try.underlying29
  clear hm hC hk h0 h1 h2 h3 h4 HKD hi hj
  cases res
  all_goals
    go_enter Try.func88, Try.ntmps88
    go_wp2_with (go_at_call 80; (with_reducible refine HKC.out.mono ?_); rintro e w2 hp; obtain ⟨rfl, t2, hs2⟩ := HS.out.step hp; have HS2 := am_ hs2; clear hp hs2)
    go_ret
    exact HS2.out.post HK.out
set_option maxHeartbeats 4000000 in
set_option maxRecDepth 100000 in
theorem findStar (w0 W : World) (gm g : Nat) (s : ByteArray) (N : Nat) (E : Nat → Bool) (t : List Int) (x : Rx) (r : Tr) (l : ByteArray) (A : Option Addr) (c id i j : Nat) (hi : i ≤ j) (hj : j ≤ s.size) (hs : s.size ≤ 1000) (hid : id ≤ 1000) (hC : Kd.C k29 w0 A 1 [r]) (hm : Mem w0 W gm g s N t)
    (hk : ∀ A2 c2, Kd.C k29 w0 A2 r.f2.length r.f2 → Kid w0 gm g s N E t i j x r A2 c2 ((id : Int) + 1))
    (hown : ∀ k W' t', i < k → k ≤ j → (t'.length = t.length ∧ ∀ c, t'.getD c 0 = t.getD c 0 ∨ t'.getD c 0 = bitv (E c)) → Mem w0 W' gm g s N t' → Calls Try.prog 80 #[.pointer (some ⟨gm, 0, none⟩), .agg #[.int .i64 8, .string l, .slice A 1 c], .int .i64 id, .int .i64 (k : Int), .int .i64 j] W' (Post w0 gm g s N E t' W' (mt (bytesOf s) (.star x) k j))) :
    Calls Try.prog 88 #[.pointer (some ⟨gm, 0, none⟩), .agg #[.int .i64 8, .string l, .slice A 1 c], .int .i64 id, .int .i64 i, .int .i64 j] W (Post w0 gm g s N E t W (mt (bytesOf s) (.star x) i j)) := by
  have hstar := mt_star (l := bytesOf s) (x := x) hi (by rw [len_bytes]; exact hj)
  have HOWN := am_ hown
  obtain ⟨ad, A2, c2, rfl, h0, h1, h2, h3, h4⟩ := kid0 hC (by omega)
  rw [show rd_T29 [r] 0 = r from rfl] at h0 h1 h2 h3 h4
  have HKD := am_ (hk A2 c2 h4)
  have B0 : Aside0 (Below W.heap.size W (W.alloc (Obj.cells #[.int .i64 8, .string l, .slice (some ad) 1 c] 29))) := ⟨below_alloc (Below.refl _ _) _⟩
  have HS : Aside0 (St w0 (W.alloc (Obj.cells #[.int .i64 8, .string l, .slice (some ad) 1 c] 29)) (W.alloc (Obj.cells #[.int .i64 8, .string l, .slice (some ad) 1 c] 29)) gm g s N E t t) := ⟨St.start (hm.below B0.out)⟩
  have HK := am_ (keep_of_below g B0.out)
  have hu := Try.underlying29
  by_cases e : i = j
  · have e1 : ((i : Int) = (j : Int)) = True := eq_true (by omega)
    have e2 : ((i : Int) == (j : Int)) = true := beq_iff_eq.mpr (by omega)
    have e3 : decide ((i : Int) = (j : Int)) = true := decide_eq_true (by omega)
    rw [hstar.mpr (Or.inl e)]
    clear e hm hC hk hown h0 h1 h2 h3 h4 hi hj hs hid hstar HKD HOWN
    go_enter Try.func88, Try.ntmps88
    go_wp2
    go_ret
    exact HS.out.post HK.out
  · have e1 : ((i : Int) = (j : Int)) = False := eq_false (by omega)
    have e2 : ((i : Int) == (j : Int)) = false := beq_eq_false_iff_ne.mpr (by omega)
    have e3 : decide ((i : Int) = (j : Int)) = false := decide_eq_false (by omega)
    have HT : Aside0 (∀ k, i < k → k ≤ j → mt (bytesOf s) x i k = true → mt (bytesOf s) (.star x) k j = true → mt (bytesOf s) (.star x) i j = true) := ⟨fun k a1 a2 a3 a4 => hstar.mpr (Or.inr ⟨k, a1, a2, a3, a4⟩)⟩
    have HN : Aside0 ((∀ k, i < k → k ≤ j → ¬ (mt (bytesOf s) x i k = true ∧ mt (bytesOf s) (.star x) k j = true)) → mt (bytesOf s) (.star x) i j = false) := ⟨fun hh => by
      rw [← Bool.not_eq_true]
      intro ht
      rcases hstar.mp ht with h | ⟨k, a1, a2, a3, a4⟩
      · exact e h
      · exact hh k a1 a2 ⟨a3, a4⟩⟩
    have HIJ : Aside0 (i < j) := ⟨by omega⟩
    have HC0 := am_ h0
    have HC1 := am_ h1
    have HC2 := am_ h2
    have HBX : Aside0 ((W.alloc (Obj.cells #[.int .i64 8, .string l, .slice (some ad) 1 c] 29)).heap[W.heap.size]? = some (.cells #[.int .i64 8, .string l, .slice (some ad) 1 c] 29 (0, 0))) := ⟨blk_new _ _⟩
    have HNE : Aside0 (W.heap.size ≠ g) := ⟨(Nat.ne_of_lt (blk_lt hm.row)).symm⟩
    generalize mt (bytesOf s) (.star x) i j = res at HT HN ⊢
    clear e hm hC hk hown h0 h1 h2 h3 h4 hstar
    go_enter Try.func88, Try.ntmps88
    go_wp2
    go_loopg [11] (j + 2) (fun gg v11 w' => ∃ (k : Nat) (kz : Int) (t' : List Int), v11 = .int .i64 kz ∧ Aside0 (kz = (k : Int)) ∧ Aside0 (i < k ∧ k ≤ j + 1) ∧ Aside0 (j + 2 ≤ gg + k) ∧ Aside0 (∀ q, i < q → q < k → ¬ (mt (bytesOf s) x i q = true ∧ mt (bytesOf s) (.star x) q j = true)) ∧ Aside0 (St w0 (W.alloc (Obj.cells #[.int .i64 8, .string l, .slice (some ad) 1 c] 29)) w' gm g s N E t t'))
    case atStart => exact ⟨i + 1, (i : Int) + 1, t, rfl, ⟨by omega⟩, ⟨by have := HIJ.out; omega⟩, ⟨by omega⟩, ⟨fun q a1 a2 => by omega⟩, HS⟩
    case round =>
      clear HS
      obtain ⟨k, kz, t', rfl, HKZ, HKK, HG, HNO, HS⟩ := hrel
      cases gk with
      | zero => exact absurd HG.out (by have := HKK.out; omega)
      | succ gk2 =>
      by_cases hkj : k ≤ j
      · have d1 : decide (kz ≤ (j : Int)) = true := decide_eq_true (by have := HKZ.out; omega)
        have d2 : (kz ≤ (j : Int)) = True := eq_true (by have := HKZ.out; omega)
        have hw : wrap64 (kz + 1) = ((k + 1 : Nat) : Int) := by rw [HKZ.out]; exact up1 (by omega)
        have HW := am_ hw
        have k0 := HS.out.old HC0.out
        have k1 := HS.out.old HC1.out
        have k2 := HS.out.old HC2.out
        have hb0 := HS.out.cell ((blk_cell HBX.out 0).trans rfl) HNE.out
        have hb1 := HS.out.cell ((blk_cell HBX.out 1).trans rfl) HNE.out
        have hb2 := HS.out.cell ((blk_cell HBX.out 2).trans rfl) HNE.out
        have hkc := HKD.out i k _ t' (Nat.le_refl _) (by have := HKK.out; omega) hkj HS.out.inv HS.out.mem
        rw [← HKZ.out] at hkc
        have hko := fun W2 t2 => HOWN.out k W2 t2 HKK.out.1 hkj
        rw [← HKZ.out] at hko
        have HKC := am_ hkc
        have HKO := am_ hko
        have HNOT : Aside0 (mt (bytesOf s) x i k = true → mt (bytesOf s) (.star x) k j = true → res = true) := ⟨HT.out k HKK.out.1 hkj⟩
        have HNEXT : Aside0 (¬ (mt (bytesOf s) x i k = true ∧ mt (bytesOf s) (.star x) k j = true) → ∀ q, i < q → q < k + 1 → ¬ (mt (bytesOf s) x i q = true ∧ mt (bytesOf s) (.star x) q j = true)) := ⟨fun hh q a1 a2 => by
          by_cases eq : q = k
          · rw [eq]; exact hh
          · exact HNO.out q a1 (by omega)⟩
        generalize mt (bytesOf s) x i k = ra at HKC HNOT HNEXT
        generalize mt (bytesOf s) (.star x) k j = rb at HKO HNOT HNEXT
        have HKJ := am_ hkj
        clear hkc hko hw hkj
        cases ra
        · go_wp2_with ((go_at_call 80; (with_reducible refine HKC.out.mono ?_); rintro e w2 hp; obtain ⟨rfl, t2, hs2⟩ := HS.out.step hp; have HS2 := am_ hs2; (try clear hb0 hb1 hb2 k0 k1 k2); have hb0 := hs2.cell ((blk_cell HBX.out 0).trans rfl) HNE.out; have hb1 := hs2.cell ((blk_cell HBX.out 1).trans rfl) HNE.out; have hb2 := hs2.cell ((blk_cell HBX.out 2).trans rfl) HNE.out; clear hp hs2))
          go_roundg gk2
          case measure => omega
          case rel => exact ⟨k + 1, wrap64 (kz + 1), t2, rfl, HW, ⟨by have := HKK.out; have := HKJ.out; omega⟩, ⟨by have := HG.out; omega⟩, ⟨HNEXT.out (by simp)⟩, HS2⟩
        · cases rb
          · go_wp2_with (first | (go_at_call 80; (with_reducible refine HKC.out.mono ?_); rintro e w2 hp; obtain ⟨rfl, t2, hs2⟩ := HS.out.step hp; have HS2 := am_ hs2; (try clear hb0 hb1 hb2 k0 k1 k2); have hb0 := hs2.cell ((blk_cell HBX.out 0).trans rfl) HNE.out; have hb1 := hs2.cell ((blk_cell HBX.out 1).trans rfl) HNE.out; have hb2 := hs2.cell ((blk_cell HBX.out 2).trans rfl) HNE.out; clear hp hs2) | (go_at_call 80; (with_reducible refine (HKO.out _ _ HS2.out.inv HS2.out.mem).mono ?_); rintro e w3 hp; obtain ⟨rfl, t3, hs3⟩ := HS2.out.step hp; have HS3 := am_ hs3; clear hp hs3))
            go_roundg gk2
            case measure => omega
            case rel => exact ⟨k + 1, wrap64 (kz + 1), t3, rfl, HW, ⟨by have := HKK.out; have := HKJ.out; omega⟩, ⟨by have := HG.out; omega⟩, ⟨HNEXT.out (by simp)⟩, HS3⟩
          · have hres := HNOT.out rfl rfl
            subst hres
            go_wp2_with (first | (go_at_call 80; (with_reducible refine HKC.out.mono ?_); rintro e w2 hp; obtain ⟨rfl, t2, hs2⟩ := HS.out.step hp; have HS2 := am_ hs2; (try clear hb0 hb1 hb2 k0 k1 k2); have hb0 := hs2.cell ((blk_cell HBX.out 0).trans rfl) HNE.out; have hb1 := hs2.cell ((blk_cell HBX.out 1).trans rfl) HNE.out; have hb2 := hs2.cell ((blk_cell HBX.out 2).trans rfl) HNE.out; clear hp hs2) | (go_at_call 80; (with_reducible refine (HKO.out _ _ HS2.out.inv HS2.out.mem).mono ?_); rintro e w3 hp; obtain ⟨rfl, t3, hs3⟩ := HS2.out.step hp; have HS3 := am_ hs3; clear hp hs3))
            go_ret
            exact HS3.out.post HK.out
      · have d1 : decide (kz ≤ (j : Int)) = false := decide_eq_false (by have := HKZ.out; omega)
        have d2 : (kz ≤ (j : Int)) = False := eq_false (by have := HKZ.out; omega)
        have hres := HN.out (fun q a b => HNO.out q a (by omega))
        subst hres
        go_wp2
        go_ret
        exact HS.out.post HK.out
end Go.Proofs.Ytldgkgdgcfllmaa.Rg
end
section
namespace Go.Proofs.Ytldgkgdgcfllmaa.P
open Go.RowKit Go.Proofs.YtldgkgdgcfllmaaW.PrintWords Go.Proofs.YtldgkgdgcfllmaaW.PrintLast Go.Proofs.YtldgkgdgcfllmaaW.PrintMore
attribute [local go_sem] max2_int min2_int max_two min_two max_three min_three max_four min_four
set_option linter.unusedVariables false
set_option linter.unusedSimpArgs false
mutual
def spec_l3Left.l0 : Nat → Int → Int → Int → ByteArray → List (S29) → Option (Int)
  | 0, _, _, _, _, _ => none
  | k + 1, x1, x5, aA, aB, ag => if x5 < (ag.length : Int) then (if x1 ≥ 0 then (if 0 ≤ x5 then ((spec_l3Left.f k ((rd_T29 ag x5).f0) ((rd_T29 ag x5).f1) ((rd_T29 ag x5).f2) x1).bind fun au => (spec_l3Left.l0 k au (wrap64 (x5 + 1)) aA aB ag)) else (none)) else (some x1)) else (some x1)
def spec_l3Left.f : Nat → Int → ByteArray → List (S29) → Int → Option (Int)
  | 0, _, _, _, _ => none
  | k + 1, a0_0, a0_1, l0_2, a1 => spec_l3Left.l0 k (wrap64 (a1 - 1)) 0 a0_0 a0_1 l0_2
end
theorem spec_l3Left.mono_l : ∀ k, (∀ y0 y1 y2 y3, LeO (spec_l3Left.f k y0 y1 y2 y3) (spec_l3Left.f (k + 1) y0 y1 y2 y3)) ∧ (∀ y0 y1 y2 y3 y4, LeO (spec_l3Left.l0 k y0 y1 y2 y3 y4) (spec_l3Left.l0 (k + 1) y0 y1 y2 y3 y4))
  | 0 => ⟨fun _ _ _ _ r h => by simp [spec_l3Left.f] at h, fun _ _ _ _ _ r h => by simp [spec_l3Left.l0] at h⟩
  | k + 1 => by
    obtain ⟨ih0, ih1⟩ := spec_l3Left.mono_l k
    refine ⟨?_, ?_⟩
    · intro y0 y1 y2 y3
      unfold spec_l3Left.f
      repeat' first
      | (with_reducible exact ih0 _ _ _ _)
      | (with_reducible exact ih1 _ _ _ _ _)
      | (with_reducible exact LeO.refl _)
      | (with_reducible exact LeO.none _)
      | (with_reducible refine LeO.ite ?_ ?_)
      | (with_reducible refine LeO.bind ?_ (fun _ => ?_))
      | exact ih0 _ _ _ _
      | exact ih1 _ _ _ _ _
      | exact LeO.none _
      | refine LeO.ite ?_ ?_
      | refine LeO.bind ?_ (fun _ => ?_)
    · intro y0 y1 y2 y3 y4
      unfold spec_l3Left.l0
      repeat' first
      | (with_reducible exact ih0 _ _ _ _)
      | (with_reducible exact ih1 _ _ _ _ _)
      | (with_reducible exact LeO.refl _)
      | (with_reducible exact LeO.none _)
      | (with_reducible refine LeO.ite ?_ ?_)
      | (with_reducible refine LeO.bind ?_ (fun _ => ?_))
      | exact ih0 _ _ _ _
      | exact ih1 _ _ _ _ _
      | exact LeO.none _
      | refine LeO.ite ?_ ?_
      | refine LeO.bind ?_ (fun _ => ?_)
theorem spec_l3Left.mono : ∀ a0 a1 a2 a3 k, LeO (spec_l3Left.f k a0 a1 a2 a3) (spec_l3Left.f (k + 1) a0 a1 a2 a3) := by
  intro a0 a1 a2 a3 k
  obtain ⟨ih0, ih1⟩ := spec_l3Left.mono_l k
  exact ih0 a0 a1 a2 a3
theorem zp10_0_ {p q g1 : Prop} (h : p) (h1 : g1) (c : p → g1 → q := by intro h_ h1_; repeat (first | (with_reducible first | exact h_ | apply below_alloc | apply pw_below_drewN | apply below_drew1 | refine below_set ?_ h1_) | exact h_)) : q := c h h1
set_option maxHeartbeats 8000000 in
set_option maxRecDepth 100000 in
theorem spec_l3Left.calls (k : Nat) : ∀ (a0_0 : Int) (a0_1 : ByteArray) (A0_2 : Option Addr) (c0_2 : Nat) (l0_2 : List (S29)) (a1 : Int) (r : Int) (w : World) (hr0_2 : Kd.C k29 w A0_2 l0_2.length l0_2) (hc0_2 : l0_2.length ≤ c0_2) (h : spec_l3Left.f k a0_0 a0_1 l0_2 a1 = some r),
    Calls Try.prog 41 #[.agg #[.int .i64 a0_0, .string a0_1, .slice A0_2 l0_2.length c0_2], .int .i64 a1] w fun e w' => e = .returned (.int .i64 r) ∧ Below w.heap.size w w' := by
  induction k using Nat.strongRecOn with
  | _ k ih =>
  intro a0_0 a0_1 A0_2 c0_2 l0_2 a1 r w hr0_2 hc0_2 h
  cases k with
  | zero => exact absurd h (by simp [spec_l3Left.f])
  | succ k =>
  simp only [spec_l3Left.f] at h
  have hu29 := Try.underlying29
  have ax := am_ hr0_2
  have aI := am_ hc0_2
  clear hr0_2 hc0_2
  have HB := am_ (Below.refl w.heap.size w)
  have H : (spec_l3Left.l0 k (wrap64 (a1 - 1)) 0 a0_0 a0_1 l0_2) = some r := h
  clear h
  have H' := am_ H
  clear H
  go_enter Try.func41, Try.ntmps41
  go_wp2_with (first | ((with_reducible refine gate_dst (N := 2) rfl ?_); refine box_event ?hg (N := 2) ?hd (cs := #[.int .i64 a0_0, .string a0_1, .slice A0_2 l0_2.length c0_2]) (t := 29) ?hr ?_; (case hd => rfl); (case hg => rfl); (case hr => first | (go_simp; done) | (go_simp; rfl)); intro ay hg w3 hbox hb; replace ab := am_ (hbox); replace bn := am_ ((by rw [hg]; exact (below_size (b0_ HB.out)) : w.heap.size ≤ ay)); replace ak := am_ ((by rw [hg]; exact (below_size (b0_ HB.out)) : w.heap.size ≤ ay)); replace HB := am_ (below_step (b0_ HB.out) hb); clear hb hbox hg))
  go_loopg [1, 5] k (fun kq v1 v5 w' => ∃ (ai : Int) (af : Int), v1 = .int .i64 ai ∧ v5 = .int .i64 af ∧ Aside0 (spec_l3Left.l0 kq ai af a0_0 a0_1 l0_2 = some r) ∧ Aside0 (kq ≤ k) ∧ Aside0 (w'.heap[ay]? = some (.cells #[.int .i64 a0_0, .string a0_1, (.slice A0_2 l0_2.length c0_2)] 29 (0, 0))) ∧ Aside0 (Below w.heap.size w w'))
  case atStart => exact ⟨(wrap64 (a1 - 1)), (0), (by first | rfl | (simp; done) | (simp [*]; done)), (by first | rfl | (simp; done) | (simp [*]; done)), H', ⟨Nat.le_refl _⟩, ⟨by refine rb_ ?_; exact ab.out⟩, ⟨by exact zp10_0_ HB.out ak.out⟩⟩
  case round =>
    clear H'
    try clear p2
    obtain ⟨ai, af, rfl, rfl, HA, HK1, ab, HB⟩ := hrel
    cases gk with
    | zero => exact absurd HA.out (by simp [spec_l3Left.l0])
    | succ k1 =>
      have H := HA.out
      clear HA
      simp only [spec_l3Left.l0] at H
      by_cases c4 : af < (l0_2.length : Int)
      · rw [if_pos c4] at H
        have c4b0 : decide (af < (l0_2.length : Int)) = true := decide_eq_true c4
        clear c4
        by_cases c5 : ai ≥ 0
        · rw [if_pos c5] at H
          have c5b0 : decide (0 ≤ ai) = true := decide_eq_true c5
          clear c5
          by_cases c6 : 0 ≤ af
          · rw [if_pos c6] at H
            have c6b0 : decide (0 ≤ af) = true := decide_eq_true c6
            clear c6
            replace H := Option.bind_eq_some_iff.mp H
            obtain ⟨au, A70, H⟩ := H
            replace H : (spec_l3Left.l0 k1 au (wrap64 (af + 1)) a0_0 a0_1 l0_2) = some r := H
            have A7 := am_ A70
            clear A70
            have H' := am_ H
            clear H
            have aV := ck_ (v := (.int .i64 a0_0)) ab 0 rfl
            have aW := ck_ (v := (.string a0_1)) ab 1 rfl
            have aX := ck_ (v := (.slice A0_2 l0_2.length c0_2)) ab 2 rfl
            have aY := blk_frozen ab.out 0
            have aZ := blk_frozen ab.out 1
            have ba := blk_frozen ab.out 2
            have p199 : 0 ≤ (af : Int) := of_decide_eq_true ah_
            have q199 : af < (l0_2.length : Int) := of_decide_eq_true ah_
            obtain ⟨bo, A199_2, c199_2, e199, al, am, an, hl199_2, hi199_2⟩ := at_T29 ax.out af p199 q199
            cases e199
            replace al := (HB.out.cell (World.block_lt_of_cell? w _ al)).trans al
            replace am := (HB.out.cell (World.block_lt_of_cell? w _ am)).trans am
            replace an := (HB.out.cell (World.block_lt_of_cell? w _ an)).trans an
            have aC := am_ hi199_2
            have aD := am_ hl199_2
            clear hi199_2 hl199_2
            replace p199 := eq_true p199
            replace q199 := eq_true q199
            go_wp2_with (first | ((with_reducible refine gate_callee (f := 41) rfl ?_); refine gL_ (some 25) Try.func41 #[.agg #[.int .i64 ((rd_T29 l0_2 af).f0), .string ((rd_T29 l0_2 af).f1), .slice A199_2 ((rd_T29 l0_2 af).f2).length c199_2], .int .i64 ai] ?_; (with_reducible refine (ih k1 (by have := HK1.out; omega) ((rd_T29 l0_2 af).f0) ((rd_T29 l0_2 af).f1) _ _ ((rd_T29 l0_2 af).f2) ai au _ ?side1 ?side2 A7.out).mono ?_); (case side1 => exact rc_ (Kd.C_below aC.out HB.out)); (case side2 => exact aD.out); rintro e w9 ⟨rfl, hb⟩; refine ⟨_, rfl, ?_⟩; have n0_ := am_ (blk_below (rb_ ab.out) hb); have n1_ := am_ (below_step (b1_ HB.out ak.out) hb); clear ab; clear HB; have ab := n0_; have HB := n1_; clear n0_ n1_; (try clear hb); (try clear hb2); (try clear hk); (try clear hi)))
            go_roundg k1
            case measure => have := HK1.out; omega
            case rel => exact ⟨(au), (wrap64 (af + 1)), (by first | rfl | (simp; done) | (simp [*]; done)), (by first | rfl | (simp; done) | (simp [*]; done)), H', ⟨by have := HK1.out; omega⟩, ⟨by refine rb_ ?_; exact ab.out⟩, ⟨by exact zp10_0_ HB.out ak.out⟩⟩
          · rw [if_neg c6] at H
            exact absurd H (by simp)
        · rw [if_neg c5] at H
          have c5b0 : decide (0 ≤ ai) = false := decide_eq_false c5
          clear c5
          obtain rfl := Option.some.inj H
          simp only [Option.some.injEq, Prod.mk.injEq] at H
          obtain ⟨rfl⟩ := H
          have aJ := ck_ (v := (.int .i64 a0_0)) ab 0 rfl
          have aK := ck_ (v := (.string a0_1)) ab 1 rfl
          have aL := ck_ (v := (.slice A0_2 l0_2.length c0_2)) ab 2 rfl
          have aM := blk_frozen ab.out 0
          have aN := blk_frozen ab.out 1
          have aO := blk_frozen ab.out 2
          go_wp2
          go_ret
          exact ⟨by first | rfl | (simp [errW_none, errW_some] <;> rfl) | (simp [*, errW_none, errW_some] <;> rfl), by exact zp10_0_ HB.out ak.out⟩
      · rw [if_neg c4] at H
        have c4b0 : decide (af < (l0_2.length : Int)) = false := decide_eq_false c4
        clear c4
        obtain rfl := Option.some.inj H
        simp only [Option.some.injEq, Prod.mk.injEq] at H
        obtain ⟨rfl⟩ := H
        have aP := ck_ (v := (.int .i64 a0_0)) ab 0 rfl
        have aQ := ck_ (v := (.string a0_1)) ab 1 rfl
        have aR := ck_ (v := (.slice A0_2 l0_2.length c0_2)) ab 2 rfl
        have aS := blk_frozen ab.out 0
        have aT := blk_frozen ab.out 1
        have aU := blk_frozen ab.out 2
        go_wp2
        go_ret
        exact ⟨by first | rfl | (simp [errW_none, errW_some] <;> rfl) | (simp [*, errW_none, errW_some] <;> rfl), by exact zp10_0_ HB.out ak.out⟩
def spec_l1Max.f (a0 : Int) (a1 : Int) : Option (Int) := if a0 > a1 then (some a0) else (some a1)
set_option maxHeartbeats 8000000 in
set_option maxRecDepth 100000 in
theorem spec_l1Max.calls (a0 : Int) (a1 : Int) (r : Int) (w : World) (h : spec_l1Max.f a0 a1 = some r) :
    Calls Try.prog 67 #[.int .i64 a0, .int .i64 a1] w fun e w' => e = .returned (.int .i64 r) ∧ Drawn0 w w' := by
  have H : (if a0 > a1 then (some a0) else (some a1)) = some r := h
  clear h
  by_cases c3 : a0 > a1
  · rw [if_pos c3] at H
    have c3b0 : decide (a1 < a0) = true := decide_eq_true c3
    clear c3
    obtain rfl := Option.some.inj H
    simp only [Option.some.injEq, Prod.mk.injEq] at H
    obtain ⟨rfl⟩ := H
    go_enter Try.func67, Try.ntmps67
    go_wp2
    go_ret
    exact ⟨by first | rfl | (simp; done) | (simp [*]; done), by repeat (first | exact Drawn0.refl _ | apply Drawn0.step)⟩
  · rw [if_neg c3] at H
    have c3b0 : decide (a1 < a0) = false := decide_eq_false c3
    clear c3
    obtain rfl := Option.some.inj H
    simp only [Option.some.injEq, Prod.mk.injEq] at H
    obtain ⟨rfl⟩ := H
    go_enter Try.func67, Try.ntmps67
    go_wp2
    go_ret
    exact ⟨by first | rfl | (simp; done) | (simp [*]; done), by repeat (first | exact Drawn0.refl _ | apply Drawn0.step)⟩
mutual
def spec_l3Depth.l0 : Nat → Int → Int → Int → ByteArray → List (S29) → Option (Int)
  | 0, _, _, _, _, _ => none
  | k + 1, x3, x4, aE, aF, ah => if x4 < (ah.length : Int) then (if 0 ≤ x4 then ((spec_l3Depth.f k ((rd_T29 ah x4).f0) ((rd_T29 ah x4).f1) ((rd_T29 ah x4).f2)).bind fun av => ((spec_l1Max.f x3 av).bind fun aw => (spec_l3Depth.l0 k aw (wrap64 (x4 + 1)) aE aF ah))) else (none)) else (some (wrap64 (x3 + 1)))
def spec_l3Depth.f : Nat → Int → ByteArray → List (S29) → Option (Int)
  | 0, _, _, _ => none
  | k + 1, a0_0, a0_1, l0_2 => spec_l3Depth.l0 k 0 0 a0_0 a0_1 l0_2
end
theorem spec_l3Depth.mono_l : ∀ k, (∀ y0 y1 y2, LeO (spec_l3Depth.f k y0 y1 y2) (spec_l3Depth.f (k + 1) y0 y1 y2)) ∧ (∀ y0 y1 y2 y3 y4, LeO (spec_l3Depth.l0 k y0 y1 y2 y3 y4) (spec_l3Depth.l0 (k + 1) y0 y1 y2 y3 y4))
  | 0 => ⟨fun _ _ _ r h => by simp [spec_l3Depth.f] at h, fun _ _ _ _ _ r h => by simp [spec_l3Depth.l0] at h⟩
  | k + 1 => by
    obtain ⟨ih0, ih1⟩ := spec_l3Depth.mono_l k
    refine ⟨?_, ?_⟩
    · intro y0 y1 y2
      unfold spec_l3Depth.f
      repeat' first
      | (with_reducible exact ih0 _ _ _)
      | (with_reducible exact ih1 _ _ _ _ _)
      | (with_reducible exact LeO.refl _)
      | (with_reducible exact LeO.none _)
      | (with_reducible refine LeO.ite ?_ ?_)
      | (with_reducible refine LeO.bind ?_ (fun _ => ?_))
      | exact ih0 _ _ _
      | exact ih1 _ _ _ _ _
      | exact LeO.none _
      | refine LeO.ite ?_ ?_
      | refine LeO.bind ?_ (fun _ => ?_)
    · intro y0 y1 y2 y3 y4
      unfold spec_l3Depth.l0
      repeat' first
      | (with_reducible exact ih0 _ _ _)
      | (with_reducible exact ih1 _ _ _ _ _)
      | (with_reducible exact LeO.refl _)
      | (with_reducible exact LeO.none _)
      | (with_reducible refine LeO.ite ?_ ?_)
      | (with_reducible refine LeO.bind ?_ (fun _ => ?_))
      | exact ih0 _ _ _
      | exact ih1 _ _ _ _ _
      | exact LeO.none _
      | refine LeO.ite ?_ ?_
      | refine LeO.bind ?_ (fun _ => ?_)
theorem spec_l3Depth.mono : ∀ a0 a1 a2 k, LeO (spec_l3Depth.f k a0 a1 a2) (spec_l3Depth.f (k + 1) a0 a1 a2) := by
  intro a0 a1 a2 k
  obtain ⟨ih0, ih1⟩ := spec_l3Depth.mono_l k
  exact ih0 a0 a1 a2
set_option maxHeartbeats 8000000 in
set_option maxRecDepth 100000 in
theorem spec_l3Depth.calls (k : Nat) : ∀ (a0_0 : Int) (a0_1 : ByteArray) (A0_2 : Option Addr) (c0_2 : Nat) (l0_2 : List (S29)) (r : Int) (w : World) (hr0_2 : Kd.C k29 w A0_2 l0_2.length l0_2) (hc0_2 : l0_2.length ≤ c0_2) (h : spec_l3Depth.f k a0_0 a0_1 l0_2 = some r),
    Calls Try.prog 42 #[.agg #[.int .i64 a0_0, .string a0_1, .slice A0_2 l0_2.length c0_2]] w fun e w' => e = .returned (.int .i64 r) ∧ Below w.heap.size w w' := by
  induction k using Nat.strongRecOn with
  | _ k ih =>
  intro a0_0 a0_1 A0_2 c0_2 l0_2 r w hr0_2 hc0_2 h
  cases k with
  | zero => exact absurd h (by simp [spec_l3Depth.f])
  | succ k =>
  simp only [spec_l3Depth.f] at h
  have hu29 := Try.underlying29
  have ax := am_ hr0_2
  have aI := am_ hc0_2
  clear hr0_2 hc0_2
  have HB := am_ (Below.refl w.heap.size w)
  have H : (spec_l3Depth.l0 k 0 0 a0_0 a0_1 l0_2) = some r := h
  clear h
  have H' := am_ H
  clear H
  go_enter Try.func42, Try.ntmps42
  go_wp2_with (first | ((with_reducible refine gate_dst (N := 1) rfl ?_); refine box_event ?hg (N := 1) ?hd (cs := #[.int .i64 a0_0, .string a0_1, .slice A0_2 l0_2.length c0_2]) (t := 29) ?hr ?_; (case hd => rfl); (case hg => rfl); (case hr => first | (go_simp; done) | (go_simp; rfl)); intro az hg w2 hbox hb; replace ae := am_ (hbox); replace bp := am_ ((by rw [hg]; exact (below_size (b0_ HB.out)) : w.heap.size ≤ az)); replace ar := am_ ((by rw [hg]; exact (below_size (b0_ HB.out)) : w.heap.size ≤ az)); replace HB := am_ (below_step (b0_ HB.out) hb); clear hb hbox hg))
  go_loopg [3, 4] k (fun kq v3 v4 w' => ∃ (aa : Int) (ad : Int), v3 = .int .i64 aa ∧ v4 = .int .i64 ad ∧ Aside0 (spec_l3Depth.l0 kq aa ad a0_0 a0_1 l0_2 = some r) ∧ Aside0 (kq ≤ k) ∧ Aside0 (w'.heap[az]? = some (.cells #[.int .i64 a0_0, .string a0_1, (.slice A0_2 l0_2.length c0_2)] 29 (0, 0))) ∧ Aside0 (Below w.heap.size w w'))
  case atStart => exact ⟨(0), (0), (by first | rfl | (simp; done) | (simp [*]; done)), (by first | rfl | (simp; done) | (simp [*]; done)), H', ⟨Nat.le_refl _⟩, ⟨by refine rb_ ?_; exact ae.out⟩, ⟨by exact zp10_0_ HB.out ar.out⟩⟩
  case round =>
    clear H'
    try clear p2
    obtain ⟨aa, ad, rfl, rfl, HA, HK1, ae, HB⟩ := hrel
    cases gk with
    | zero => exact absurd HA.out (by simp [spec_l3Depth.l0])
    | succ k1 =>
      have H := HA.out
      clear HA
      simp only [spec_l3Depth.l0] at H
      by_cases c3 : ad < (l0_2.length : Int)
      · rw [if_pos c3] at H
        have c3b0 : decide (ad < (l0_2.length : Int)) = true := decide_eq_true c3
        clear c3
        by_cases c4 : 0 ≤ ad
        · rw [if_pos c4] at H
          have c4b0 : decide (0 ≤ ad) = true := decide_eq_true c4
          clear c4
          replace H := Option.bind_eq_some_iff.mp H
          obtain ⟨av, A50, H⟩ := H
          have A5 := am_ A50
          clear A50
          replace H := Option.bind_eq_some_iff.mp H
          obtain ⟨aw, A60, H⟩ := H
          replace H : (spec_l3Depth.l0 k1 aw (wrap64 (ad + 1)) a0_0 a0_1 l0_2) = some r := H
          have A6 := am_ A60
          clear A60
          have H' := am_ H
          clear H
          have bb := ck_ (v := (.int .i64 a0_0)) ae 0 rfl
          have bc := ck_ (v := (.string a0_1)) ae 1 rfl
          have bd := ck_ (v := (.slice A0_2 l0_2.length c0_2)) ae 2 rfl
          have be := blk_frozen ae.out 0
          have bf := blk_frozen ae.out 1
          have bg := blk_frozen ae.out 2
          have p202 : 0 ≤ (ad : Int) := of_decide_eq_true ah_
          have q202 : ad < (l0_2.length : Int) := of_decide_eq_true ah_
          obtain ⟨bq, A202_2, c202_2, e202, ao, ap, aq, hl202_2, hi202_2⟩ := at_T29 ax.out ad p202 q202
          cases e202
          replace ao := (HB.out.cell (World.block_lt_of_cell? w _ ao)).trans ao
          replace ap := (HB.out.cell (World.block_lt_of_cell? w _ ap)).trans ap
          replace aq := (HB.out.cell (World.block_lt_of_cell? w _ aq)).trans aq
          have aG := am_ hi202_2
          have aH := am_ hl202_2
          clear hi202_2 hl202_2
          replace p202 := eq_true p202
          replace q202 := eq_true q202
          go_wp2_with (first | ((with_reducible refine gate_callee (f := 42) rfl ?_); refine gL_ (some 18) Try.func42 #[.agg #[.int .i64 ((rd_T29 l0_2 ad).f0), .string ((rd_T29 l0_2 ad).f1), .slice A202_2 ((rd_T29 l0_2 ad).f2).length c202_2]] ?_; (with_reducible refine (ih k1 (by have := HK1.out; omega) ((rd_T29 l0_2 ad).f0) ((rd_T29 l0_2 ad).f1) _ _ ((rd_T29 l0_2 ad).f2) av _ ?side1 ?side2 A5.out).mono ?_); (case side1 => exact rc_ (Kd.C_below aG.out HB.out)); (case side2 => exact aH.out); rintro e w8 ⟨rfl, hb⟩; refine ⟨_, rfl, ?_⟩; have n0_ := am_ (blk_below (rb_ ae.out) hb); have n1_ := am_ (below_step (b1_ HB.out ar.out) hb); clear ae; clear HB; have ae := n0_; have HB := n1_; clear n0_ n1_; (try clear hb); (try clear hb2); (try clear hk); (try clear hi)) | ((with_reducible refine gate_callee (f := 67) rfl ?_); refine gL_ (some 19) Try.func67 #[.int .i64 aa, .int .i64 av] ?_; (with_reducible refine (spec_l1Max.calls aa av aw _ A6.out).mono ?_); rintro e w' ⟨rfl, ⟨nd, rfl⟩⟩; refine ⟨_, rfl, ?_⟩))
          go_roundg k1
          case measure => have := HK1.out; omega
          case rel => exact ⟨(aw), (wrap64 (ad + 1)), (by first | rfl | (simp; done) | (simp [*]; done)), (by first | rfl | (simp; done) | (simp [*]; done)), H', ⟨by have := HK1.out; omega⟩, ⟨by refine rb_ ?_; exact ae.out⟩, ⟨by exact zp10_0_ HB.out ar.out⟩⟩
        · rw [if_neg c4] at H
          exact absurd H (by simp)
      · rw [if_neg c3] at H
        have c3b0 : decide (ad < (l0_2.length : Int)) = false := decide_eq_false c3
        clear c3
        obtain rfl := Option.some.inj H
        simp only [Option.some.injEq, Prod.mk.injEq] at H
        obtain ⟨rfl⟩ := H
        have bh := ck_ (v := (.int .i64 a0_0)) ae 0 rfl
        have bi := ck_ (v := (.string a0_1)) ae 1 rfl
        have bj := ck_ (v := (.slice A0_2 l0_2.length c0_2)) ae 2 rfl
        have bk := blk_frozen ae.out 0
        have bl := blk_frozen ae.out 1
        have bm := blk_frozen ae.out 2
        go_wp2
        go_ret
        exact ⟨by first | rfl | (simp [errW_none, errW_some] <;> rfl) | (simp [*, errW_none, errW_some] <;> rfl), by exact zp10_0_ HB.out ar.out⟩
def spec_LetterIndex.l0 : Nat → Int → Int → Option (Int)
  | 0, _, _ => none
  | k + 1, x0, x3 => if x3 < 3 then (if 0 ≤ x3 then (if (bt (⟨#[97, 98, 99]⟩ : ByteArray) x3) = x0 then (some x3) else (spec_LetterIndex.l0 k x0 (wrap64 (x3 + 1)))) else (none)) else (some (-1))
def spec_LetterIndex.f (k : Nat) (a0 : Int) : Option (Int) := spec_LetterIndex.l0 k a0 0
theorem spec_LetterIndex.mono_l : ∀ k, (∀ y0 y1, LeO (spec_LetterIndex.l0 k y0 y1) (spec_LetterIndex.l0 (k + 1) y0 y1))
  | 0 => fun _ _ r h => by simp [spec_LetterIndex.l0] at h
  | k + 1 => by
    have ih0 := spec_LetterIndex.mono_l k
    · intro y0 y1
      unfold spec_LetterIndex.l0
      repeat' first
      | (with_reducible exact ih0 _ _)
      | (with_reducible exact LeO.refl _)
      | (with_reducible exact LeO.none _)
      | (with_reducible refine LeO.ite ?_ ?_)
      | (with_reducible refine LeO.bind ?_ (fun _ => ?_))
      | exact ih0 _ _
      | exact LeO.none _
      | refine LeO.ite ?_ ?_
      | refine LeO.bind ?_ (fun _ => ?_)
theorem spec_LetterIndex.mono : ∀ a0 k, LeO (spec_LetterIndex.f k a0) (spec_LetterIndex.f (k + 1) a0) := by
  intro a0 k
  have ih0 := spec_LetterIndex.mono_l k
  unfold spec_LetterIndex.f
  repeat' first
      | (with_reducible exact ih0 _ _)
      | (with_reducible exact LeO.refl _)
      | (with_reducible exact LeO.none _)
      | (with_reducible refine LeO.ite ?_ ?_)
      | (with_reducible refine LeO.bind ?_ (fun _ => ?_))
      | exact ih0 _ _
      | exact LeO.none _
      | refine LeO.ite ?_ ?_
      | refine LeO.bind ?_ (fun _ => ?_)
set_option maxHeartbeats 8000000 in
set_option maxRecDepth 100000 in
theorem spec_LetterIndex.calls (k : Nat) (a0 : Int) (r : Int) (w : World) (h : spec_LetterIndex.f k a0 = some r) :
    Calls Try.prog 75 #[.int .u8 a0] w fun e w' => e = .returned (.int .i64 r) ∧ Drawn0 w w' := by
  have H : (spec_LetterIndex.l0 k a0 0) = some r := h
  clear h
  have H' := am_ H
  clear H
  go_enter Try.func75, Try.ntmps75
  go_wp2
  go_loopg [3] k (fun kq v3 w' => ∃ (aa : Int), v3 = .int .i64 aa ∧ Aside0 (spec_LetterIndex.l0 kq a0 aa = some r) ∧ Aside0 (kq ≤ k) ∧ Drawn0 w w')
  case atStart => exact ⟨(0), (by first | rfl | (simp; done) | (simp [*]; done)), H', ⟨Nat.le_refl _⟩, by repeat (first | exact Drawn0.refl _ | apply Drawn0.step)⟩
  case round =>
    clear H'
    obtain ⟨aa, rfl, HA, HK1, ⟨m1, rfl⟩⟩ := hrel
    cases gk with
    | zero => exact absurd HA.out (by simp [spec_LetterIndex.l0])
    | succ k1 =>
      have H := HA.out
      clear HA
      simp only [spec_LetterIndex.l0] at H
      by_cases c2 : aa < 3
      · rw [if_pos c2] at H
        have c2b0 : decide (aa < 3) = true := decide_eq_true c2
        clear c2
        by_cases c3 : 0 ≤ aa
        · rw [if_pos c3] at H
          have c3b0 : decide (0 ≤ aa) = true := decide_eq_true c3
          clear c3
          by_cases c5 : (bt (⟨#[97, 98, 99]⟩ : ByteArray) aa) = a0
          · rw [if_pos c5] at H
            have c5b0 : ((bt (⟨#[97, 98, 99]⟩ : ByteArray) aa) == a0) = true := beq_iff_eq.mpr c5
            have c5b1 : ((bt (⟨#[97, 98, 99]⟩ : ByteArray) aa) != a0) = false := bne_eq_false_iff_eq.mpr c5
            clear c5
            obtain rfl := Option.some.inj H
            simp only [Option.some.injEq, Prod.mk.injEq] at H
            obtain ⟨rfl⟩ := H
            have p4 : 0 ≤ (aa : Int) := of_decide_eq_true ah_
            have q4 : aa < (3 : Int) := of_decide_eq_true ah_
            have hx4 := bt_at (⟨#[97, 98, 99]⟩ : ByteArray) aa
            replace p4 := eq_true p4
            replace q4 := eq_true q4
            go_wp2
            go_ret
            exact ⟨by first | rfl | (simp; done) | (simp [*]; done), by repeat (first | exact Drawn0.refl _ | apply Drawn0.step)⟩
          · rw [if_neg c5] at H
            have c5b0 : ((bt (⟨#[97, 98, 99]⟩ : ByteArray) aa) == a0) = false := beq_eq_false_iff_ne.mpr c5
            have c5b1 : ((bt (⟨#[97, 98, 99]⟩ : ByteArray) aa) != a0) = true := bne_iff_ne.mpr c5
            have H' := am_ H
            clear H
            have p4 : 0 ≤ (aa : Int) := of_decide_eq_true ah_
            have q4 : aa < (3 : Int) := of_decide_eq_true ah_
            have hx4 := bt_at (⟨#[97, 98, 99]⟩ : ByteArray) aa
            replace p4 := eq_true p4
            replace q4 := eq_true q4
            go_wp2
            go_roundg k1
            case measure => have := HK1.out; omega
            case rel => exact ⟨(wrap64 (aa + 1)), (by first | rfl | (simp; done) | (simp [*]; done)), H', ⟨by have := HK1.out; omega⟩, by repeat (first | exact Drawn0.refl _ | apply Drawn0.step)⟩
        · rw [if_neg c3] at H
          exact absurd H (by simp)
      · rw [if_neg c2] at H
        have c2b0 : decide (aa < 3) = false := decide_eq_false c2
        clear c2
        obtain rfl := Option.some.inj H
        simp only [Option.some.injEq, Prod.mk.injEq] at H
        obtain ⟨rfl⟩ := H
        go_wp2
        go_ret
        exact ⟨by first | rfl | (simp; done) | (simp [*]; done), by repeat (first | exact Drawn0.refl _ | apply Drawn0.step)⟩
def spec_IsWord.l0 : Nat → ByteArray → Int → Option (Bool)
  | 0, _, _ => none
  | k + 1, x0, x3 => if x3 < (x0.size : Int) then (if 0 ≤ x3 then ((spec_LetterIndex.f k (bt x0 x3)).bind fun aj => (if aj < 0 then (some false) else (spec_IsWord.l0 k x0 (wrap64 (x3 + 1))))) else (none)) else (some (decide ((x0.size : Int) ≤ 30)))
def spec_IsWord.f (k : Nat) (a0 : ByteArray) : Option (Bool) := spec_IsWord.l0 k a0 0
theorem spec_IsWord.mono_l : ∀ k, (∀ y0 y1, LeO (spec_IsWord.l0 k y0 y1) (spec_IsWord.l0 (k + 1) y0 y1))
  | 0 => fun _ _ r h => by simp [spec_IsWord.l0] at h
  | k + 1 => by
    have ih0 := spec_IsWord.mono_l k
    · intro y0 y1
      unfold spec_IsWord.l0
      repeat' first
      | (with_reducible exact ih0 _ _)
      | (with_reducible exact spec_LetterIndex.mono _ _)
      | (with_reducible exact LeO.refl _)
      | (with_reducible exact LeO.none _)
      | (with_reducible refine LeO.ite ?_ ?_)
      | (with_reducible refine LeO.bind ?_ (fun _ => ?_))
      | exact ih0 _ _
      | exact spec_LetterIndex.mono _ _
      | exact LeO.none _
      | refine LeO.ite ?_ ?_
      | refine LeO.bind ?_ (fun _ => ?_)
theorem spec_IsWord.mono : ∀ a0 k, LeO (spec_IsWord.f k a0) (spec_IsWord.f (k + 1) a0) := by
  intro a0 k
  have ih0 := spec_IsWord.mono_l k
  unfold spec_IsWord.f
  repeat' first
      | (with_reducible exact ih0 _ _)
      | (with_reducible exact spec_LetterIndex.mono _ _)
      | (with_reducible exact LeO.refl _)
      | (with_reducible exact LeO.none _)
      | (with_reducible refine LeO.ite ?_ ?_)
      | (with_reducible refine LeO.bind ?_ (fun _ => ?_))
      | exact ih0 _ _
      | exact spec_LetterIndex.mono _ _
      | exact LeO.none _
      | refine LeO.ite ?_ ?_
      | refine LeO.bind ?_ (fun _ => ?_)
set_option maxHeartbeats 8000000 in
set_option maxRecDepth 100000 in
theorem spec_IsWord.calls (k : Nat) (a0 : ByteArray) (r : Bool) (w : World) (h : spec_IsWord.f k a0 = some r) :
    Calls Try.prog 51 #[.string a0] w fun e w' => e = .returned (.bool r) ∧ Drawn0 w w' := by
  have H : (spec_IsWord.l0 k a0 0) = some r := h
  clear h
  have H' := am_ H
  clear H
  go_enter Try.func51, Try.ntmps51
  go_wp2
  go_loopg [3] k (fun kq v3 w' => ∃ (aa : Int), v3 = .int .i64 aa ∧ Aside0 (spec_IsWord.l0 kq a0 aa = some r) ∧ Aside0 (kq ≤ k) ∧ Drawn0 w w')
  case atStart => exact ⟨(0), (by first | rfl | (simp; done) | (simp [*]; done)), H', ⟨Nat.le_refl _⟩, by repeat (first | exact Drawn0.refl _ | apply Drawn0.step)⟩
  case round =>
    clear H'
    obtain ⟨aa, rfl, HA, HK1, ⟨m1, rfl⟩⟩ := hrel
    cases gk with
    | zero => exact absurd HA.out (by simp [spec_IsWord.l0])
    | succ k1 =>
      have H := HA.out
      clear HA
      simp only [spec_IsWord.l0] at H
      by_cases c2 : aa < (a0.size : Int)
      · rw [if_pos c2] at H
        have c2b0 : decide (aa < (a0.size : Int)) = true := decide_eq_true c2
        clear c2
        by_cases c3 : 0 ≤ aa
        · rw [if_pos c3] at H
          have c3b0 : decide (0 ≤ aa) = true := decide_eq_true c3
          clear c3
          replace H := Option.bind_eq_some_iff.mp H
          obtain ⟨aj, A50, H⟩ := H
          have A5 := am_ A50
          clear A50
          by_cases c6 : aj < 0
          · rw [if_pos c6] at H
            have c6b0 : decide (aj < 0) = true := decide_eq_true c6
            clear c6
            obtain rfl := Option.some.inj H
            simp only [Option.some.injEq, Prod.mk.injEq] at H
            obtain ⟨rfl⟩ := H
            have p4 : 0 ≤ (aa : Int) := of_decide_eq_true ah_
            have q4 : aa < (a0.size : Int) := of_decide_eq_true ah_
            have hx4 := bt_at a0 aa
            replace p4 := eq_true p4
            replace q4 := eq_true q4
            go_wp2_with (first | ((with_reducible refine gate_callee (f := 75) rfl ?_); refine gL_ (some 13) Try.func75 #[.int .u8 (bt a0 aa)] ?_; (with_reducible refine (spec_LetterIndex.calls k1 (bt a0 aa) aj _ A5.out).mono ?_); rintro e w' ⟨rfl, ⟨nd, rfl⟩⟩; refine ⟨_, rfl, ?_⟩))
            go_ret
            exact ⟨by first | rfl | (simp; done) | (simp [*]; done), by repeat (first | exact Drawn0.refl _ | apply Drawn0.step)⟩
          · rw [if_neg c6] at H
            have c6b0 : decide (aj < 0) = false := decide_eq_false c6
            clear c6
            have H' := am_ H
            clear H
            have p4 : 0 ≤ (aa : Int) := of_decide_eq_true ah_
            have q4 : aa < (a0.size : Int) := of_decide_eq_true ah_
            have hx4 := bt_at a0 aa
            replace p4 := eq_true p4
            replace q4 := eq_true q4
            go_wp2_with (first | ((with_reducible refine gate_callee (f := 75) rfl ?_); refine gL_ (some 13) Try.func75 #[.int .u8 (bt a0 aa)] ?_; (with_reducible refine (spec_LetterIndex.calls k1 (bt a0 aa) aj _ A5.out).mono ?_); rintro e w' ⟨rfl, ⟨nd, rfl⟩⟩; refine ⟨_, rfl, ?_⟩))
            go_roundg k1
            case measure => have := HK1.out; omega
            case rel => exact ⟨(wrap64 (aa + 1)), (by first | rfl | (simp; done) | (simp [*]; done)), H', ⟨by have := HK1.out; omega⟩, by repeat (first | exact Drawn0.refl _ | apply Drawn0.step)⟩
        · rw [if_neg c3] at H
          exact absurd H (by simp)
      · rw [if_neg c2] at H
        have c2b0 : decide (aa < (a0.size : Int)) = false := decide_eq_false c2
        clear c2
        obtain rfl := Option.some.inj H
        simp only [Option.some.injEq, Prod.mk.injEq] at H
        obtain ⟨rfl⟩ := H
        go_wp2
        go_ret
        exact ⟨by first | rfl | (simp; done) | (simp [*]; done), by repeat (first | exact Drawn0.refl _ | apply Drawn0.step)⟩
def spec_l1In.f (a0 : Int) (a1 : Int) (a2 : Int) : Option (Bool) := if a0 ≥ a1 then (some (decide (a0 ≤ a2))) else (some false)
set_option maxHeartbeats 8000000 in
set_option maxRecDepth 100000 in
theorem spec_l1In.calls (a0 : Int) (a1 : Int) (a2 : Int) (r : Bool) (w : World) (h : spec_l1In.f a0 a1 a2 = some r) :
    Calls Try.prog 68 #[.int .i64 a0, .int .i64 a1, .int .i64 a2] w fun e w' => e = .returned (.bool r) ∧ Drawn0 w w' := by
  have H : (if a0 ≥ a1 then (some (decide (a0 ≤ a2))) else (some false)) = some r := h
  clear h
  by_cases c4 : a0 ≥ a1
  · rw [if_pos c4] at H
    have c4b0 : decide (a1 ≤ a0) = true := decide_eq_true c4
    clear c4
    obtain rfl := Option.some.inj H
    simp only [Option.some.injEq, Prod.mk.injEq] at H
    obtain ⟨rfl⟩ := H
    go_enter Try.func68, Try.ntmps68
    go_wp2
    go_ret
    exact ⟨by first | rfl | (simp; done) | (simp [*]; done), by repeat (first | exact Drawn0.refl _ | apply Drawn0.step)⟩
  · rw [if_neg c4] at H
    have c4b0 : decide (a1 ≤ a0) = false := decide_eq_false c4
    clear c4
    obtain rfl := Option.some.inj H
    simp only [Option.some.injEq, Prod.mk.injEq] at H
    obtain ⟨rfl⟩ := H
    go_enter Try.func68, Try.ntmps68
    go_wp2
    go_ret
    exact ⟨by first | rfl | (simp; done) | (simp [*]; done), by repeat (first | exact Drawn0.refl _ | apply Drawn0.step)⟩
def spec_l3Args.j0 : Nat → Int → Bool → Option (Int)
  | 0, _, _ => none
  | k + 1, x3, x4 => if x4 = true then (some 2) else (if x3 = 8 then (some 1) else (if x3 = 9 then (some 1) else (some 0)))
def spec_l3Args.f (k : Nat) (a0 : Int) : Option (Int) := if a0 = 5 then (spec_l3Args.j0 k a0 (a0 == 5)) else (if a0 = 6 then (spec_l3Args.j0 k a0 (a0 == 6)) else (spec_l3Args.j0 k a0 (a0 == 7)))
theorem spec_l3Args.mono_l : ∀ k, (∀ y0 y1, LeO (spec_l3Args.j0 k y0 y1) (spec_l3Args.j0 (k + 1) y0 y1))
  | 0 => fun _ _ r h => by simp [spec_l3Args.j0] at h
  | k + 1 => by
    have ih0 := spec_l3Args.mono_l k
    · intro y0 y1
      unfold spec_l3Args.j0
      repeat' first
      | (with_reducible exact ih0 _ _)
      | (with_reducible exact LeO.refl _)
      | (with_reducible exact LeO.none _)
      | (with_reducible refine LeO.ite ?_ ?_)
      | (with_reducible refine LeO.bind ?_ (fun _ => ?_))
      | exact ih0 _ _
      | exact LeO.none _
      | refine LeO.ite ?_ ?_
      | refine LeO.bind ?_ (fun _ => ?_)
theorem spec_l3Args.mono : ∀ a0 k, LeO (spec_l3Args.f k a0) (spec_l3Args.f (k + 1) a0) := by
  intro a0 k
  have ih0 := spec_l3Args.mono_l k
  unfold spec_l3Args.f
  repeat' first
      | (with_reducible exact ih0 _ _)
      | (with_reducible exact LeO.refl _)
      | (with_reducible exact LeO.none _)
      | (with_reducible refine LeO.ite ?_ ?_)
      | (with_reducible refine LeO.bind ?_ (fun _ => ?_))
      | exact ih0 _ _
      | exact LeO.none _
      | refine LeO.ite ?_ ?_
      | refine LeO.bind ?_ (fun _ => ?_)
set_option maxHeartbeats 8000000 in
set_option maxRecDepth 100000 in
theorem spec_l3Args.calls (k : Nat) (a0 : Int) (r : Int) (w : World) (h : spec_l3Args.f k a0 = some r) :
    Calls Try.prog 69 #[.int .i64 a0] w fun e w' => e = .returned (.int .i64 r) ∧ Drawn0 w w' := by
  have H : (if a0 = 5 then (spec_l3Args.j0 k a0 (a0 == 5)) else (if a0 = 6 then (spec_l3Args.j0 k a0 (a0 == 6)) else (spec_l3Args.j0 k a0 (a0 == 7)))) = some r := h
  clear h
  have HC2 := am_ H
  clear H
  go_enter Try.func69, Try.ntmps69
  go_upto_if 4 with (fail)
  go_cut [4] (fun v4 wc => ∃ (kq : Nat) (ad : Bool), v4 = .bool ad ∧ Aside0 (spec_l3Args.j0 kq a0 ad = some r) ∧ Aside0 (kq ≤ k) ∧ Drawn0 w wc)
  case first =>
    have H := HC2.out
    clear HC2
    by_cases c3 : a0 = 5
    · rw [if_pos c3] at H
      have c3b0 : (a0 == 5) = true := beq_iff_eq.mpr c3
      have c3b1 : (a0 != 5) = false := bne_eq_false_iff_eq.mpr c3
      clear c3
      (first | rw [c3b0] | (simp only [i64_w, i32_w]; rw [c3b0]) | skip)
      have H' := am_ H
      clear H
      go_wp2
      go_meet
      case rel => exact ⟨_, ((a0 == 5)), (by first | rfl | (simp; done) | (simp [*]; done)), H', ⟨by first | omega | exact Nat.le_refl _⟩, by repeat (first | exact Drawn0.refl _ | apply Drawn0.step)⟩
    · rw [if_neg c3] at H
      have c3b0 : (a0 == 5) = false := beq_eq_false_iff_ne.mpr c3
      have c3b1 : (a0 != 5) = true := bne_iff_ne.mpr c3
      (first | rw [c3b0] | (simp only [i64_w, i32_w]; rw [c3b0]) | skip)
      by_cases c4 : a0 = 6
      · rw [if_pos c4] at H
        have c4b0 : (a0 == 6) = true := beq_iff_eq.mpr c4
        have c4b1 : (a0 != 6) = false := bne_eq_false_iff_eq.mpr c4
        clear c4
        have H' := am_ H
        clear H
        go_wp2
        go_meet
        case rel => exact ⟨_, ((a0 == 6)), (by first | rfl | (simp; done) | (simp [*]; done)), H', ⟨by first | omega | exact Nat.le_refl _⟩, by repeat (first | exact Drawn0.refl _ | apply Drawn0.step)⟩
      · rw [if_neg c4] at H
        have c4b0 : (a0 == 6) = false := beq_eq_false_iff_ne.mpr c4
        have c4b1 : (a0 != 6) = true := bne_iff_ne.mpr c4
        have H' := am_ H
        clear H
        go_wp2
        go_meet
        case rel => exact ⟨_, ((a0 == 7)), (by first | rfl | (simp; done) | (simp [*]; done)), H', ⟨by first | omega | exact Nat.le_refl _⟩, by repeat (first | exact Drawn0.refl _ | apply Drawn0.step)⟩
  case rest =>
    clear HC2
    try clear p2
    try clear c3
    try clear c3b0
    try clear c3b1
    try clear c4
    try clear c4b0
    try clear c4b1
    obtain ⟨kq, ad, rfl, HA, HJ1, ⟨mc1, rfl⟩⟩ := hcut
    cases kq with
    | zero => exact absurd HA.out (by simp [spec_l3Args.j0])
    | succ kj1 =>
      have H := HA.out
      clear HA
      simp only [spec_l3Args.j0] at H
      by_cases c5 : ad = true
      · subst c5
        have H1 : (some 2) = some r := by rw [if_pos rfl] at H; exact H
        clear H
        have H := H1
        clear H1
        obtain rfl := Option.some.inj H
        simp only [Option.some.injEq, Prod.mk.injEq] at H
        obtain ⟨rfl⟩ := H
        go_wp2
        go_ret
        exact ⟨by first | rfl | (simp; done) | (simp [*]; done), by repeat (first | exact Drawn0.refl _ | apply Drawn0.step)⟩
      · replace c5 := Bool.eq_false_iff.mpr c5
        subst c5
        have H1 : (if a0 = 8 then (some 1) else (if a0 = 9 then (some 1) else (some 0))) = some r := by rw [if_neg (show ¬ (false = true) by decide)] at H; exact H
        clear H
        have H := H1
        clear H1
        by_cases c6 : a0 = 8
        · rw [if_pos c6] at H
          have c6b0 : (a0 == 8) = true := beq_iff_eq.mpr c6
          have c6b1 : (a0 != 8) = false := bne_eq_false_iff_eq.mpr c6
          clear c6
          obtain rfl := Option.some.inj H
          simp only [Option.some.injEq, Prod.mk.injEq] at H
          obtain ⟨rfl⟩ := H
          go_wp2
          go_ret
          exact ⟨by first | rfl | (simp; done) | (simp [*]; done), by repeat (first | exact Drawn0.refl _ | apply Drawn0.step)⟩
        · rw [if_neg c6] at H
          have c6b0 : (a0 == 8) = false := beq_eq_false_iff_ne.mpr c6
          have c6b1 : (a0 != 8) = true := bne_iff_ne.mpr c6
          by_cases c7 : a0 = 9
          · rw [if_pos c7] at H
            have c7b0 : (a0 == 9) = true := beq_iff_eq.mpr c7
            have c7b1 : (a0 != 9) = false := bne_eq_false_iff_eq.mpr c7
            clear c7
            obtain rfl := Option.some.inj H
            simp only [Option.some.injEq, Prod.mk.injEq] at H
            obtain ⟨rfl⟩ := H
            go_wp2
            go_ret
            exact ⟨by first | rfl | (simp; done) | (simp [*]; done), by repeat (first | exact Drawn0.refl _ | apply Drawn0.step)⟩
          · rw [if_neg c7] at H
            have c7b0 : (a0 == 9) = false := beq_eq_false_iff_ne.mpr c7
            have c7b1 : (a0 != 9) = true := bne_iff_ne.mpr c7
            obtain rfl := Option.some.inj H
            simp only [Option.some.injEq, Prod.mk.injEq] at H
            obtain ⟨rfl⟩ := H
            go_wp2
            go_ret
            exact ⟨by first | rfl | (simp; done) | (simp [*]; done), by repeat (first | exact Drawn0.refl _ | apply Drawn0.step)⟩
end Go.Proofs.Ytldgkgdgcfllmaa.P
end
