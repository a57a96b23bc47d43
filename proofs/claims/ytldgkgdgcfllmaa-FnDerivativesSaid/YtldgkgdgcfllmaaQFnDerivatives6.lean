/- Texts of the proof of FnDerivatives, put together. No condition. -/
import Derived.Test.YtldgkgdgcfllmaaQFnDerivatives3
import Derived.Shelf.Abstract
import Derived.Lib.Walk
import Derived.Test.YtldgkgdgcfllmaaQFnDerivatives5
section
namespace Go.Proofs.Ytldgkgdgcfllmaa.Rg
open Go.RowKit Go.Shelf Go.Proofs.Ytldgkgdgcfllmaa.P Go.Proofs.Ytldgkgdgcfllmaa.Pl Go.Proofs.YtldgkgdgcfllmaaW.PrintWords Go.Proofs.YtldgkgdgcfllmaaW.PrintLast Go.Proofs.YtldgkgdgcfllmaaW.PrintMore
set_option linter.unusedVariables false
set_option linter.unusedSimpArgs false
def bitv (b : Bool) : Int := if b then 2 else 1
def enc8 (t : List Int) : Array Value := (t.map (fun x => Value.int .i8 x)).toArray
theorem enc8_get {t : List Int} {c : Nat} (h : c < t.length) : (enc8 t)[c]? = some (.int .i8 (t.getD c 0)) := by
  unfold enc8
  simp [List.getD_eq_getElem?_getD, h]
theorem enc8_set (t : List Int) (c : Nat) (x : Int) : (enc8 t).setIfInBounds c (.int .i8 x) = enc8 (t.set c x) := by
  unfold enc8
  simp [List.map_set]
structure Mem (w0 W : World) (gm g : Nat) (s : ByteArray) (N : Nat) (t : List Int) : Prop where
  box : W.heap[gm]? = some (.cells #[.string s, .int .i64 (N : Int), .slice (some ⟨g, 0, none⟩) t.length t.length] 89 (0, 0))
  row : W.heap[g]? = some (.cells (enc8 t) 99 (0, 0))
  bel : Below w0.heap.size w0 W
  ne : gm ≠ g
  lg : w0.heap.size ≤ g
  lm : w0.heap.size ≤ gm
theorem Mem.below {w0 W W' : World} {gm g : Nat} {s : ByteArray} {N : Nat} {t : List Int} (h : Mem w0 W gm g s N t) (hb : Below W.heap.size W W') : Mem w0 W' gm g s N t := ⟨blk_below h.box hb, blk_below h.row hb, below_then h.bel h.bel.size hb, h.ne, h.lg, h.lm⟩
theorem Mem.put {w0 W : World} {gm g : Nat} {s : ByteArray} {N : Nat} {t : List Int} (h : Mem w0 W gm g s N t) (c : Nat) (x : Int) : Mem w0 (W.setCell ⟨g, c, none⟩ (.int .i8 x)) gm g s N (t.set c x) :=
  ⟨by rw [List.length_set]; exact blk_far h.box h.ne _, by rw [← enc8_set]; exact blk_set h.row c _, below_set h.bel h.lg, h.ne, h.lg, h.lm⟩
theorem Mem.cell {w0 W : World} {gm g : Nat} {s : ByteArray} {N : Nat} {t : List Int} (h : Mem w0 W gm g s N t) {c : Nat} (hc : c < t.length) : W.cell? ⟨g, c, none⟩ = some (.int .i8 (t.getD c 0)) := (blk_cell h.row c).trans (enc8_get hc)
def Ok (E : Nat → Bool) (t : List Int) (c : Nat) : Prop := t.getD c 0 = 0 ∨ t.getD c 0 = bitv (E c)
def Reg (N id n i j c : Nat) : Prop := ∃ q a b, id ≤ q ∧ q < id + n ∧ i ≤ a ∧ a ≤ b ∧ b ≤ j ∧ c = fl N q a b
def Post (w0 : World) (gm g : Nat) (s : ByteArray) (N : Nat) (E : Nat → Bool) (t : List Int) (W : World) (r : Bool) (e : Ending) (W' : World) : Prop :=
  e = .returned (.bool r) ∧ ∃ t', t'.length = t.length ∧ (∀ c, t'.getD c 0 = t.getD c 0 ∨ t'.getD c 0 = bitv (E c)) ∧ Mem w0 W' gm g s N t' ∧ KeepBut W W' g none
def Agr (l : List Int) (N : Nat) (E : Nat → Bool) : Rx → Nat → Prop
  | .cat x y, id => (∀ i j, i ≤ j → j < N → E (fl N id i j) = mt l (.cat x y) i j) ∧ Agr l N E x (id + 1) ∧ Agr l N E y (id + 1 + sz x)
  | .or x y, id => (∀ i j, i ≤ j → j < N → E (fl N id i j) = mt l (.or x y) i j) ∧ Agr l N E x (id + 1) ∧ Agr l N E y (id + 1 + sz x)
  | .and x y, id => (∀ i j, i ≤ j → j < N → E (fl N id i j) = mt l (.and x y) i j) ∧ Agr l N E x (id + 1) ∧ Agr l N E y (id + 1 + sz x)
  | .star x, id => (∀ i j, i ≤ j → j < N → E (fl N id i j) = mt l (.star x) i j) ∧ Agr l N E x (id + 1)
  | .not x, id => (∀ i j, i ≤ j → j < N → E (fl N id i j) = mt l (.not x) i j) ∧ Agr l N E x (id + 1)
  | .none, id => ∀ i j, i ≤ j → j < N → E (fl N id i j) = mt l .none i j
  | .empty, id => ∀ i j, i ≤ j → j < N → E (fl N id i j) = mt l .empty i j
  | .letter c, id => ∀ i j, i ≤ j → j < N → E (fl N id i j) = mt l (.letter c) i j
  | .any, id => ∀ i j, i ≤ j → j < N → E (fl N id i j) = mt l .any i j
theorem Agr.own {l : List Int} {N : Nat} {E : Nat → Bool} {x : Rx} {id : Nat} (h : Agr l N E x id) {i j : Nat} (hi : i ≤ j) (hj : j < N) : E (fl N id i j) = mt l x i j := by
  cases x <;> first | exact h.1 i j hi hj | exact h i j hi hj
theorem keep_of_below {w w' : World} (g : Nat) (h : Below w.heap.size w w') : KeepBut w w' g none := ⟨h.size, fun i hi _ _ => h.block i hi⟩
theorem getD_set {t : List Int} {p c : Nat} {x : Int} (h : p < t.length) : (t.set p x).getD c 0 = if c = p then x else t.getD c 0 := by
  rw [List.getD_eq_getElem?_getD, List.getD_eq_getElem?_getD, List.getElem?_set]
  by_cases e : p = c
  · subst e
    simp [h]
  · rw [if_neg e, if_neg (fun e2 => e e2.symm)]
theorem postC {t t' : List Int} {E : Nat → Bool} {p : Nat} {b : Bool} (hp : p < t.length) (hx : ∀ c, t'.getD c 0 = (t.set p 1).getD c 0 ∨ t'.getD c 0 = bitv (E c)) (hv : t'.getD p 0 = bitv b) (hE : E p = b) : ∀ c, t'.getD c 0 = t.getD c 0 ∨ t'.getD c 0 = bitv (E c) := fun c => by
  by_cases e : c = p
  · subst e
    rw [hE]
    exact Or.inr hv
  · have := hx c
    rw [getD_set hp, if_neg e] at this
    exact this
theorem postT {t t' : List Int} {E : Nat → Bool} {p : Nat} (hp : p < t.length) (hl : t'.length = t.length) (hx : ∀ c, t'.getD c 0 = (t.set p 1).getD c 0 ∨ t'.getD c 0 = bitv (E c)) (hE : E p = true) : ∀ c, (t'.set p 2).getD c 0 = t.getD c 0 ∨ (t'.set p 2).getD c 0 = bitv (E c) := fun c => by
  rw [getD_set (by omega)]
  by_cases e : c = p
  · subst e
    rw [hE, if_pos rfl]
    exact Or.inr rfl
  · have := hx c
    rw [getD_set hp, if_neg e] at this
    rw [if_neg e]
    exact this
def Tm1 : Bool × List (List Nat × List Nat) := (true, [([], []), ([], []), ([1], [1]), ([2], [2]), ([3], [3]), ([0, 4], [0, 4]), ([], []), ([5, 6], [5, 6]), ([], []), ([8], [8]), ([9], [9]), ([10], [10]), ([7, 11], [7, 11]), ([], []), ([12, 13], [12, 13]), ([14, 0, 1, 2, 3, 4, 5, 6, 7, 8, 9, 10, 11, 12, 13, 14], [14])])
def Bm1 : List Nat := [0, 0, 2, 6, 14, 31, 0, 127, 0, 256, 768, 1792, 4095, 0, 16383, 32767]
theorem tabm1 : rtab .any (opsOf Try.f80 1) = Tm1 := by kernel_rfl
theorem bitsm1 : waitsOk Tm1.2 Bm1 = true := by kernel_rfl
theorem wr_ {n : Int} (h0 : -9223372036854775808 ≤ n) (h1 : n ≤ 9223372036854775807) : IntKind.i64.wrap n = n := by rw [IntKind.wrap_i64]; omega
set_option maxHeartbeats 4000000 in
set_option maxRecDepth 100000 in
theorem matchStep (w0 W : World) (gm g : Nat) (s : ByteArray) (N T : Nat) (E : Nat → Bool) (t : List Int) (x : Rx) (r : Tr) (A : Option Addr) (c id i j : Nat) (hN : N = s.size + 1) (hN2 : N ≤ 1000) (hT : T ≤ 1000) (hid : id < T) (hi : i ≤ j) (hj : j ≤ s.size) (ht : t.length = T * N * N) (hm : Mem w0 W gm g s N t)
    (hE : E (fl N id i j) = mt (bytesOf s) x i j) (hok : Ok E t (fl N id i j))
    (hf : t.getD (fl N id i j) 0 = 0 → ∀ W1, Mem w0 W1 gm g s N (t.set (fl N id i j) 1) → Calls Try.prog 88 #[.pointer (some ⟨gm, 0, none⟩), .agg #[.int .i64 r.f0, .string r.f1, .slice A r.f2.length c], .int .i64 id, .int .i64 i, .int .i64 j] W1 (Post w0 gm g s N E (t.set (fl N id i j) 1) W1 (mt (bytesOf s) x i j))) :
    Calls Try.prog 80 #[.pointer (some ⟨gm, 0, none⟩), .agg #[.int .i64 r.f0, .string r.f1, .slice A r.f2.length c], .int .i64 id, .int .i64 i, .int .i64 j] W (Post w0 gm g s N E t W (mt (bytesOf s) x i j)) := by
  have hlt : fl N id i j < t.length := by rw [ht]; exact fl_lt hid (by omega) (by omega)
  have HF := am_ hf
  have HM := am_ hm
  have hcell := hm.cell hlt
  obtain ⟨p1, hp1⟩ : ∃ p, p = id * N := ⟨_, rfl⟩
  obtain ⟨p2, hp2⟩ : ∃ p, p = p1 + i := ⟨_, rfl⟩
  obtain ⟨p3, hp3⟩ : ∃ p, p = p2 * N := ⟨_, rfl⟩
  obtain ⟨p4, hp4⟩ : ∃ p, p = p3 + j := ⟨_, rfl⟩
  have hfl : fl N id i j = p4 := by unfold fl; rw [hp4, hp3, hp2, hp1]
  have b1 : p1 ≤ 1000 * 1000 := by rw [hp1]; exact Nat.mul_le_mul (by omega) (by omega)
  have b3 : p3 ≤ 1001000 * 1000 := by rw [hp3]; exact Nat.mul_le_mul (by omega) (by omega)
  have m1 : IntKind.i64.wrap ((id : Int) * (N : Int)) = (p1 : Int) := by rw [← Int.natCast_mul, ← hp1]; exact wr_ (by omega) (by omega)
  have m2 : IntKind.i64.wrap ((p1 : Int) + (i : Int)) = (p2 : Int) := by rw [wr_ (by omega) (by omega)]; omega
  have m3 : IntKind.i64.wrap ((p2 : Int) * (N : Int)) = (p3 : Int) := by rw [← Int.natCast_mul, ← hp3]; exact wr_ (by omega) (by omega)
  have m4 : IntKind.i64.wrap ((p3 : Int) + (j : Int)) = (p4 : Int) := by rw [wr_ (by omega) (by omega)]; omega
  rw [hfl] at HF hE hok hlt hcell
  have HL := am_ hlt
  have HE := am_ hE
  have HOK := am_ hok
  have q1 : ((0 : Int) ≤ (p4 : Int)) = True := eq_true (by omega)
  have q2 : ((p4 : Int) < (t.length : Int)) = True := eq_true (by omega)
  have q2n : (p4 < t.length) = True := eq_true hlt
  have B0 : Aside0 (Below W.heap.size W (W.alloc (Obj.cells #[.int .i64 r.f0, .string r.f1, .slice A r.f2.length c] 29))) := ⟨below_alloc (Below.refl _ _) _⟩
  have hb1 : World.cell? (W.alloc (Obj.cells #[.int .i64 r.f0, .string r.f1, .slice A r.f2.length c] 29)) ⟨gm, 1, none⟩ = some (.int .i64 (N : Int)) := pw_cell_below B0.out ((blk_cell hm.box 1).trans rfl)
  have hb2 : World.cell? (W.alloc (Obj.cells #[.int .i64 r.f0, .string r.f1, .slice A r.f2.length c] 29)) ⟨gm, 2, none⟩ = some (.slice (some ⟨g, 0, none⟩) t.length t.length) := pw_cell_below B0.out ((blk_cell hm.box 2).trans rfl)
  have hb3 := pw_cell_below B0.out hcell
  clear hf hm hcell hfl hp1 hp2 hp3 hp4 b1 b3 hE hok hlt ht hi hj hN hN2 hT hid
  obtain ⟨v, hv⟩ : ∃ v, v = t.getD p4 0 := ⟨_, rfl⟩
  unfold Ok at HOK
  rw [← hv] at HF HOK hb3
  generalize mt (bytesOf s) x i j = res at HF HE ⊢
  rcases HOK.out with h0 | h0
  · rw [h0] at HF hb3
    have HF1 := am_ (fun W1 => HF.out rfl W1)
    clear HOK HF
    have HMD := am_ (HM.out.below B0.out)
    have HM1 := am_ ((HMD.out.put p4 1).below (below_drew1 (Below.refl _ _)))
    have hcz := HMD.out.cell HL.out
    rw [← hv, h0] at hcz
    clear hv h0
    have hnb : g ≠ W.heap.size := Nat.ne_of_lt (blk_lt HM.out.row)
    have hnc : W.heap.size ≠ g := hnb.symm
    have hfz := blk_frozen HMD.out.row p4
    have hb2d := (blk_cell HM1.out.box 2).trans rfl
    have HKP : Aside0 (KeepBut W ((W.alloc (Obj.cells #[.int .i64 r.f0, .string r.f1, .slice A r.f2.length c] 29)).setCell ⟨g, p4, none⟩ (.int .i8 1)).drew g none) := ⟨keep_drew (KeepBut.set_ (keep_of_below g B0.out) p4 _)⟩
    cases res
    · go_enter Try.func80, Try.ntmps80
      go_wp2
      refine start_ (n := 16) (S := (fun w' => w'.cell? ⟨gm, 1, none⟩ = some (.int .i64 (N : Int)))) (ds := []) (bl 16 0) (by kernel_rfl) rfl rfl (hb1) (fun hHeld => ?_); refine with_tabW tabm1 bitsm1 (fun HT_ HW_ => ?_)
      refine ph_ 0 12 (bl 16 1) HT_ ?_
      refine ph_ 1 13 (bl 16 3) HT_ ?_
      refine ph_ 2 14 (bl 16 7) HT_ ?_
      refine ph_ 3 15 (bl 16 15) HT_ ?_
      refine ph_ 6 18 (bl 16 79) HT_ ?_
      refine ph_ 8 20 (bl 16 335) HT_ ?_
      refine ph_ 9 21 (bl 16 847) HT_ ?_
      refine ph_ 10 22 (bl 16 1871) HT_ ?_
      refine ph_ 13 25 (bl 16 10063) HT_ ?_
      refine th_ 4 16 (bl 16 10079) HT_ HW_ hHeld ?_
      refine ph_ 5 17 (bl 16 10111) HT_ ?_
      refine ph_ 7 19 (bl 16 10239) HT_ ?_
      refine th_ 11 23 (bl 16 12287) HT_ HW_ hHeld ?_
      refine ph_ 12 24 (bl 16 16383) HT_ ?_
      refine ph_ 14 26 (bl 16 32767) HT_ ?_
      refine ph_ 15 11 (bl 16 65535) HT_ ?_
      refine done_ (done_of HT_.out (by kernel_rfl)) ?_
      clear HT_ HW_ hHeld
      go_wp2_with (go_at_call 88; (with_reducible refine (HF1.out _ HM1.out).mono ?_); rintro e w2 ⟨rfl, t', hl, hx, hm, hk⟩; rw [List.length_set] at hl; have HM2 := am_ hm; have HX := am_ hx; have HK2 := am_ hk; have HL2 := am_ hl; have hv : t'.getD p4 0 = 1 := (by rcases hx p4 with h | h; { rw [h, getD_set HL.out, if_pos rfl] }; { rw [h, HE.out]; rfl }); have hc6 := hm.cell (c := p4) (by rw [hl]; exact HL.out); rw [hv] at hc6; have HV := am_ hv; have hb6 : World.cell? w2 ⟨gm, 2, none⟩ = some (.slice (some ⟨g, 0, none⟩) t'.length t'.length) := (blk_cell hm.box 2).trans rfl; rw [hl] at hb6; clear hl hx hm hk hv)
      go_ret
      exact ⟨rfl, t', HL2.out, postC (b := false) HL.out HX.out HV.out HE.out, HM2.out, HKP.out.trans HK2.out (.inl rfl)⟩
    · go_enter Try.func80, Try.ntmps80
      go_wp2
      refine start_ (n := 16) (S := (fun w' => w'.cell? ⟨gm, 1, none⟩ = some (.int .i64 (N : Int)))) (ds := []) (bl 16 0) (by kernel_rfl) rfl rfl (hb1) (fun hHeld => ?_); refine with_tabW tabm1 bitsm1 (fun HT_ HW_ => ?_)
      refine ph_ 0 12 (bl 16 1) HT_ ?_
      refine ph_ 1 13 (bl 16 3) HT_ ?_
      refine ph_ 2 14 (bl 16 7) HT_ ?_
      refine ph_ 3 15 (bl 16 15) HT_ ?_
      refine ph_ 6 18 (bl 16 79) HT_ ?_
      refine ph_ 8 20 (bl 16 335) HT_ ?_
      refine ph_ 9 21 (bl 16 847) HT_ ?_
      refine ph_ 10 22 (bl 16 1871) HT_ ?_
      refine ph_ 13 25 (bl 16 10063) HT_ ?_
      refine th_ 4 16 (bl 16 10079) HT_ HW_ hHeld ?_
      refine ph_ 5 17 (bl 16 10111) HT_ ?_
      refine ph_ 7 19 (bl 16 10239) HT_ ?_
      refine th_ 11 23 (bl 16 12287) HT_ HW_ hHeld ?_
      refine ph_ 12 24 (bl 16 16383) HT_ ?_
      refine ph_ 14 26 (bl 16 32767) HT_ ?_
      refine ph_ 15 11 (bl 16 65535) HT_ ?_
      refine done_ (done_of HT_.out (by kernel_rfl)) ?_
      clear HT_ HW_ hHeld
      go_wp2_with (go_at_call 88; (with_reducible refine (HF1.out _ HM1.out).mono ?_); rintro e w2 ⟨rfl, t', hl, hx, hm, hk⟩; rw [List.length_set] at hl; have HM2 := am_ hm; have HX := am_ hx; have HK2 := am_ hk; have HL2 := am_ hl; have hc6 := hm.cell (c := p4) (by rw [hl]; exact HL.out); have hfz6 := blk_frozen hm.row p4; have hng := hm.ne; have hnh := hm.ne.symm; have hb6 : World.cell? w2 ⟨gm, 2, none⟩ = some (.slice (some ⟨g, 0, none⟩) t'.length t'.length) := (blk_cell hm.box 2).trans rfl; rw [hl] at hb6; clear hl hx hm hk)
      go_ret
      exact ⟨rfl, t'.set p4 2, by rw [List.length_set]; exact HL2.out, postT HL.out HL2.out HX.out HE.out, HM2.out.put p4 2, (HKP.out.trans HK2.out (.inl rfl)).set_ p4 _⟩
  · rw [HE.out] at h0
    have h0 : v = if res then 2 else 1 := h0
    cases res <;> simp only [if_true, Bool.false_eq_true, if_false] at h0 <;> rw [h0] at HF hb3 <;> clear h0 HOK hv
    all_goals
      go_enter Try.func80, Try.ntmps80
      go_wp2
      refine start_ (n := 16) (S := (fun w' => w'.cell? ⟨gm, 1, none⟩ = some (.int .i64 (N : Int)))) (ds := []) (bl 16 0) (by kernel_rfl) rfl rfl (hb1) (fun hHeld => ?_); refine with_tabW tabm1 bitsm1 (fun HT_ HW_ => ?_)
      refine ph_ 0 12 (bl 16 1) HT_ ?_
      refine ph_ 1 13 (bl 16 3) HT_ ?_
      refine ph_ 2 14 (bl 16 7) HT_ ?_
      refine ph_ 3 15 (bl 16 15) HT_ ?_
      refine ph_ 6 18 (bl 16 79) HT_ ?_
      refine ph_ 8 20 (bl 16 335) HT_ ?_
      refine ph_ 9 21 (bl 16 847) HT_ ?_
      refine ph_ 10 22 (bl 16 1871) HT_ ?_
      refine ph_ 13 25 (bl 16 10063) HT_ ?_
      refine th_ 4 16 (bl 16 10079) HT_ HW_ hHeld ?_
      refine ph_ 5 17 (bl 16 10111) HT_ ?_
      refine ph_ 7 19 (bl 16 10239) HT_ ?_
      refine th_ 11 23 (bl 16 12287) HT_ HW_ hHeld ?_
      refine ph_ 12 24 (bl 16 16383) HT_ ?_
      refine ph_ 14 26 (bl 16 32767) HT_ ?_
      refine ph_ 15 11 (bl 16 65535) HT_ ?_
      refine done_ (done_of HT_.out (by kernel_rfl)) ?_
      clear HT_ HW_ hHeld
      have BD : Aside0 (Below W.heap.size W (W.alloc (Obj.cells #[.int .i64 r.f0, .string r.f1, .slice A r.f2.length c] 29)).drew) := ⟨below_drew1 B0.out⟩
      have hb2d := pw_cell_below BD.out ((blk_cell HM.out.box 2).trans rfl)
      go_wp2
      go_ret
      exact ⟨rfl, t, rfl, fun _ => Or.inl rfl, HM.out.below BD.out, keep_of_below g BD.out⟩
structure St (w0 W1 W' : World) (gm g : Nat) (s : ByteArray) (N : Nat) (E : Nat → Bool) (t t' : List Int) : Prop where
  inv : t'.length = t.length ∧ ∀ c, t'.getD c 0 = t.getD c 0 ∨ t'.getD c 0 = bitv (E c)
  mem : Mem w0 W' gm g s N t'
  keep : KeepBut W1 W' g none
section
variable {w0 W W1 W' W2 : World} {gm g : Nat} {s : ByteArray} {N : Nat} {E : Nat → Bool} {t t' : List Int} {b : Bool} {e : Ending}
theorem St.step (h : St w0 W1 W' gm g s N E t t') (p : Post w0 gm g s N E t' W' b e W2) : e = .returned (.bool b) ∧ ∃ t2, St w0 W1 W2 gm g s N E t t2 := by
  obtain ⟨he, t2, h1, h2, h3, h4⟩ := p
  refine ⟨he, t2, ⟨by rw [h1, h.inv.1], fun c => ?_⟩, h3, h.keep.trans h4 (.inl rfl)⟩
  rcases h2 c with e1 | e1
  · rw [e1]; exact h.inv.2 c
  · exact Or.inr e1
theorem St.post (h : St w0 W1 W' gm g s N E t t') (k : KeepBut W W1 g none) : Post w0 gm g s N E t W b (.returned (.bool b)) W' := ⟨rfl, t', h.inv.1, h.inv.2, h.mem, k.trans h.keep (.inl rfl)⟩
theorem St.cell (h : St w0 W1 W' gm g s N E t t') {a : Addr} {v : Value} (hc : W1.cell? a = some v) (hn : a.block ≠ g) : W'.cell? a = some v := keep_cell h.keep hc hn
theorem St.old (h : St w0 W1 W' gm g s N E t t') {a : Addr} {v : Value} (hc : w0.cell? a = some v) : W'.cell? a = some v := pw_cell_below h.mem.bel hc
theorem St.below (h : St w0 W1 W' gm g s N E t t') (hb : Below W'.heap.size W' W2) : St w0 W1 W2 gm g s N E t t' := ⟨h.inv, h.mem.below hb, h.keep.trans (keep_of_below g hb) (.inl rfl)⟩
theorem St.start (hm : Mem w0 W1 gm g s N t) : St w0 W1 W1 gm g s N E t t := ⟨⟨rfl, fun _ => Or.inl rfl⟩, hm, keep_of_below g (Below.refl _ _)⟩
end
theorem kid0 {w : World} {A : Option Addr} {n : Nat} {xs : List Tr} (h : Kd.C k29 w A n xs) (h1 : 0 < n) : ∃ ad A2 c2, A = some ad ∧ w.cell? ad = some (.int .i64 (rd_T29 xs 0).f0) ∧ w.cell? ⟨ad.block, ad.off + 1, none⟩ = some (.string (rd_T29 xs 0).f1) ∧ w.cell? ⟨ad.block, ad.off + 2, none⟩ = some (.slice A2 (rd_T29 xs 0).f2.length c2) ∧ (rd_T29 xs 0).f2.length ≤ c2 ∧ Kd.C k29 w A2 (rd_T29 xs 0).f2.length (rd_T29 xs 0).f2 := by
  obtain ⟨ad, A2, c2, e, h0, h2, h3, h4, h5⟩ := at_T29 h 0 (by omega) (by omega)
  rw [show ((0 : Int)).toNat = 0 from rfl, show 0 * 3 = 0 from rfl, Addr.add_zero'] at h0 h2 h3
  exact ⟨ad, A2, c2, e, h0, h2, h3, h4, h5⟩
def Kid (w0 : World) (gm g : Nat) (s : ByteArray) (N : Nat) (E : Nat → Bool) (t : List Int) (lo hi : Nat) (y : Rx) (r : Tr) (A : Option Addr) (c : Nat) (id : Int) : Prop :=
  ∀ (i j : Nat) (W : World) (t' : List Int), lo ≤ i → i ≤ j → j ≤ hi → (t'.length = t.length ∧ ∀ c, t'.getD c 0 = t.getD c 0 ∨ t'.getD c 0 = bitv (E c)) → Mem w0 W gm g s N t' →
    Calls Try.prog 80 #[.pointer (some ⟨gm, 0, none⟩), .agg #[.int .i64 r.f0, .string r.f1, .slice A r.f2.length c], .int .i64 id, .int .i64 i, .int .i64 j] W (Post w0 gm g s N E t' W (mt (bytesOf s) y i j))
def Tf5 : Bool × List (List Nat × List Nat) := (true, [([], []), ([0], [0]), ([1], [1]), ([2], [2]), ([], []), ([], []), ([3, 4, 5], [3, 4, 5]), ([], []), ([7], [7]), ([6, 8], [6, 8]), ([9, 0, 1, 2, 3, 4, 5, 6, 7, 8, 9], [9])])
def Bf5 : List Nat := [0, 1, 3, 7, 0, 0, 63, 0, 128, 511, 1023]
theorem tabf5 : rtab .any (opsOf Try.f88 5) = Tf5 := by kernel_rfl
theorem bitsf5 : waitsOk Tf5.2 Bf5 = true := by kernel_rfl
set_option maxHeartbeats 4000000 in
set_option maxRecDepth 100000 in
theorem findLeaf (w0 W : World) (gm g : Nat) (s : ByteArray) (N : Nat) (E : Nat → Bool) (t : List Int) (x : Rx) (k : Int) (l : ByteArray) (A : Option Addr) (c id i j : Nat) (hk : (k = 1 ∧ x = .none) ∨ (k = 2 ∧ x = .empty) ∨ (k = 4 ∧ x = .any)) (hi : i ≤ j) (hj : j ≤ s.size) (hs : s.size ≤ 1000) (hm : Mem w0 W gm g s N t) :
    Calls Try.prog 88 #[.pointer (some ⟨gm, 0, none⟩), .agg #[.int .i64 k, .string l, .slice A 0 c], .int .i64 id, .int .i64 i, .int .i64 j] W (Post w0 gm g s N E t W (mt (bytesOf s) x i j)) := by
  have B0 : Aside0 (Below W.heap.size W (W.alloc (Obj.cells #[.int .i64 k, .string l, .slice A 0 c] 29))) := ⟨below_alloc (Below.refl _ _) _⟩
  have HS : Aside0 (St w0 (W.alloc (Obj.cells #[.int .i64 k, .string l, .slice A 0 c] 29)) (W.alloc (Obj.cells #[.int .i64 k, .string l, .slice A 0 c] 29)) gm g s N E t t) := ⟨St.start (hm.below B0.out)⟩
  have HK := am_ (keep_of_below g B0.out)
  have hlen : (bytesOf s).length = s.size := len_bytes s
  clear hm
  rcases hk with ⟨rfl, rfl⟩ | ⟨rfl, rfl⟩ | ⟨rfl, rfl⟩
  · rw [mt_none]
    go_enter Try.func88, Try.ntmps88
    go_wp2
    go_ret
    exact HS.out.post HK.out
  · rw [mt_empty hi (by omega)]
    by_cases e : i = j
    · have e1 : ((i : Int) = (j : Int)) = True := eq_true (by omega)
      have e2 : ((i : Int) == (j : Int)) = true := beq_iff_eq.mpr (by omega)
      have e3 : decide ((i : Int) = (j : Int)) = true := decide_eq_true (by omega)
      have e4 : decide (i = j) = true := decide_eq_true e
      rw [e4]
      clear e e4 hi hj hs hlen
      go_enter Try.func88, Try.ntmps88
      go_wp2
      go_ret
      exact HS.out.post HK.out
    · have e1 : ((i : Int) = (j : Int)) = False := eq_false (by omega)
      have e2 : ((i : Int) == (j : Int)) = false := beq_eq_false_iff_ne.mpr (by omega)
      have e3 : decide ((i : Int) = (j : Int)) = false := decide_eq_false (by omega)
      have e4 : decide (i = j) = false := decide_eq_false e
      rw [e4]
      clear e e4 hi hj hs hlen
      go_enter Try.func88, Try.ntmps88
      go_wp2
      go_ret
      exact HS.out.post HK.out
  · rw [mt_any hi (by omega)]
    by_cases e : j = i + 1
    · have e1 : ((j : Int) - (i : Int) = 1) = True := eq_true (by omega)
      have e2 : ((j : Int) - (i : Int) == 1) = true := beq_iff_eq.mpr (by omega)
      have e3 : decide ((j : Int) - (i : Int) = 1) = true := decide_eq_true (by omega)
      have e4 : decide (j = i + 1) = true := decide_eq_true e
      rw [e4]
      clear e e4 hlen
      go_enter Try.func88, Try.ntmps88
      go_wp2
      go_ret
      exact HS.out.post HK.out
    · have e1 : ((j : Int) - (i : Int) = 1) = False := eq_false (by omega)
      have e2 : ((j : Int) - (i : Int) == 1) = false := beq_eq_false_iff_ne.mpr (by omega)
      have e3 : decide ((j : Int) - (i : Int) = 1) = false := decide_eq_false (by omega)
      have e4 : decide (j = i + 1) = false := decide_eq_false e
      rw [e4]
      clear e e4 hlen
      go_enter Try.func88, Try.ntmps88
      go_wp2
      go_ret
      exact HS.out.post HK.out
set_option maxHeartbeats 4000000 in
set_option maxRecDepth 100000 in
theorem findLetter (w0 W : World) (gm g : Nat) (s : ByteArray) (N : Nat) (E : Nat → Bool) (t : List Int) (l : ByteArray) (A : Option Addr) (c id i j : Nat) (hi : i ≤ j) (hj : j ≤ s.size) (hs : s.size ≤ 1000) (hm : Mem w0 W gm g s N t) :
    Calls Try.prog 88 #[.pointer (some ⟨gm, 0, none⟩), .agg #[.int .i64 3, .string l, .slice A 0 c], .int .i64 id, .int .i64 i, .int .i64 j] W (Post w0 gm g s N E t W (mt (bytesOf s) (.letter l) i j)) := by
  have B0 : Aside0 (Below W.heap.size W (W.alloc (Obj.cells #[.int .i64 3, .string l, .slice A 0 c] 29))) := ⟨below_alloc (Below.refl _ _) _⟩
  have HS : Aside0 (St w0 (W.alloc (Obj.cells #[.int .i64 3, .string l, .slice A 0 c] 29)) (W.alloc (Obj.cells #[.int .i64 3, .string l, .slice A 0 c] 29)) gm g s N E t t) := ⟨St.start (hm.below B0.out)⟩
  have HK := am_ (keep_of_below g B0.out)
  have hb0 : World.cell? (W.alloc (Obj.cells #[.int .i64 3, .string l, .slice A 0 c] 29)) ⟨gm, 0, none⟩ = some (.string s) := (blk_cell HS.out.mem.box 0).trans rfl
  have hb1 : World.cell? (W.alloc (Obj.cells #[.int .i64 3, .string l, .slice A 0 c] 29)) ⟨W.heap.size, 1, none⟩ = some (.string l) := by simp
  have p1 : ((0 : Int) ≤ (i : Int)) = True := eq_true (by omega)
  have p2 : ((i : Int) ≤ (j : Int)) = True := eq_true (by omega)
  have p3 : ((j : Int) ≤ (s.size : Int)) = True := eq_true (by omega)
  have p4 : (i ≤ j) = True := eq_true hi
  have p5 : (j ≤ s.size) = True := eq_true hj
  rw [mt_letter, show decide (s.extract i j = l) = ((s.extract i j).toList == l.toList) from by rw [Bool.eq_iff_iff, decide_eq_true_iff, beq_iff_eq, toList_iff]]
  clear hm hi hj hs
  go_enter Try.func88, Try.ntmps88
  go_wp2
  refine start_ (n := 11) (S := (fun w' => w'.cell? ⟨gm, 0, none⟩ = some (.string s) ∧ w'.cell? ⟨W.heap.size, 1, none⟩ = some (.string l))) (ds := []) (bl 11 0) (by kernel_rfl) rfl rfl (⟨hb0, hb1⟩) (fun hHeld => ?_); refine with_tabW tabf5 bitsf5 (fun HT_ HW_ => ?_)
  refine ph_ 0 25 (bl 11 1) HT_ ?_
  refine ph_ 1 26 (bl 11 3) HT_ ?_
  refine ph_ 2 27 (bl 11 7) HT_ ?_
  refine ph_ 4 29 (bl 11 23) HT_ ?_
  refine ph_ 5 30 (bl 11 55) HT_ ?_
  refine ph_ 7 32 (bl 11 183) HT_ ?_
  refine th_ 3 28 (bl 11 191) HT_ HW_ hHeld ?_
  refine ph_ 6 31 (bl 11 255) HT_ ?_
  refine th_ 8 33 (bl 11 511) HT_ HW_ hHeld ?_
  refine ph_ 9 34 (bl 11 1023) HT_ ?_
  refine ph_ 10 10 (bl 11 2047) HT_ ?_
  refine done_ (done_of HT_.out (by kernel_rfl)) ?_
  clear HT_ HW_ hHeld
  go_wp2
  go_ret
  exact (HS.out.below (below_drew1 (Below.refl _ _))).post HK.out
set_option maxHeartbeats 4000000 in
set_option maxRecDepth 100000 in
theorem findNot (w0 W : World) (gm g : Nat) (s : ByteArray) (N : Nat) (E : Nat → Bool) (t : List Int) (x : Rx) (r : Tr) (l : ByteArray) (A : Option Addr) (c id i j : Nat) (hi : i ≤ j) (hj : j ≤ s.size) (hid : id ≤ 1000) (hC : Kd.C k29 w0 A 1 [r]) (hm : Mem w0 W gm g s N t)
    (hk : ∀ A2 c2, Kd.C k29 w0 A2 r.f2.length r.f2 → Kid w0 gm g s N E t i j x r A2 c2 ((id : Int) + 1)) :
    Calls Try.prog 88 #[.pointer (some ⟨gm, 0, none⟩), .agg #[.int .i64 9, .string l, .slice A 1 c], .int .i64 id, .int .i64 i, .int .i64 j] W (Post w0 gm g s N E t W (mt (bytesOf s) (.not x) i j)) := by
  obtain ⟨ad, A2, c2, rfl, h0, h1, h2, h3, h4⟩ := kid0 hC (by omega)
  rw [show rd_T29 [r] 0 = r from rfl] at h0 h1 h2 h3 h4
  have HKD := am_ (hk A2 c2 h4)
  have B0 : Aside0 (Below W.heap.size W (W.alloc (Obj.cells #[.int .i64 9, .string l, .slice (some ad) 1 c] 29))) := ⟨below_alloc (Below.refl _ _) _⟩
  have HS : Aside0 (St w0 (W.alloc (Obj.cells #[.int .i64 9, .string l, .slice (some ad) 1 c] 29)) (W.alloc (Obj.cells #[.int .i64 9, .string l, .slice (some ad) 1 c] 29)) gm g s N E t t) := ⟨St.start (hm.below B0.out)⟩
  have HK := am_ (keep_of_below g B0.out)
  have k0 := HS.out.old h0
  have k1 := HS.out.old h1
  have k2 := HS.out.old h2
  rw [mt_not]
  have HKC := am_ (HKD.out i j _ t (Nat.le_refl _) hi (Nat.le_refl _) HS.out.inv HS.out.mem)
  generalize mt (bytesOf s) x i j = res at HKC ⊢
  have hu := Try.underlying29
  clear hm hC hk h0 h1 h2 h3 h4 HKD hi hj
  cases res
  all_goals
    go_enter Try.func88, Try.ntmps88
    go_wp2_with (go_at_call 80; (with_reducible refine HKC.out.mono ?_); rintro e w2 hp; obtain ⟨rfl, t2, hs2⟩ := HS.out.step hp; have HS2 := am_ hs2; clear hp hs2)
    go_ret
    exact HS2.out.post HK.out
set_option maxHeartbeats 4000000 in
set_option maxRecDepth 100000 in
theorem findStar (w0 W : World) (gm g : Nat) (s : ByteArray) (N : Nat) (E : Nat → Bool) (t : List Int) (x : Rx) (r : Tr) (l : ByteArray) (A : Option Addr) (c id i j : Nat) (hi : i ≤ j) (hj : j ≤ s.size) (hs : s.size ≤ 1000) (hid : id ≤ 1000) (hC : Kd.C k29 w0 A 1 [r]) (hm : Mem w0 W gm g s N t)
    (hk : ∀ A2 c2, Kd.C k29 w0 A2 r.f2.length r.f2 → Kid w0 gm g s N E t i j x r A2 c2 ((id : Int) + 1))
    (hown : ∀ k W' t', i < k → k ≤ j → (t'.length = t.length ∧ ∀ c, t'.getD c 0 = t.getD c 0 ∨ t'.getD c 0 = bitv (E c)) → Mem w0 W' gm g s N t' → Calls Try.prog 80 #[.pointer (some ⟨gm, 0, none⟩), .agg #[.int .i64 8, .string l, .slice A 1 c], .int .i64 id, .int .i64 (k : Int), .int .i64 j] W' (Post w0 gm g s N E t' W' (mt (bytesOf s) (.star x) k j))) :
    Calls Try.prog 88 #[.pointer (some ⟨gm, 0, none⟩), .agg #[.int .i64 8, .string l, .slice A 1 c], .int .i64 id, .int .i64 i, .int .i64 j] W (Post w0 gm g s N E t W (mt (bytesOf s) (.star x) i j)) := by
  have hstar := mt_star (l := bytesOf s) (x := x) hi (by rw [len_bytes]; exact hj)
  have HOWN := am_ hown
  obtain ⟨ad, A2, c2, rfl, h0, h1, h2, h3, h4⟩ := kid0 hC (by omega)
  rw [show rd_T29 [r] 0 = r from rfl] at h0 h1 h2 h3 h4
  have HKD := am_ (hk A2 c2 h4)
  have B0 : Aside0 (Below W.heap.size W (W.alloc (Obj.cells #[.int .i64 8, .string l, .slice (some ad) 1 c] 29))) := ⟨below_alloc (Below.refl _ _) _⟩
  have HS : Aside0 (St w0 (W.alloc (Obj.cells #[.int .i64 8, .string l, .slice (some ad) 1 c] 29)) (W.alloc (Obj.cells #[.int .i64 8, .string l, .slice (some ad) 1 c] 29)) gm g s N E t t) := ⟨St.start (hm.below B0.out)⟩
  have HK := am_ (keep_of_below g B0.out)
  have hu := Try.underlying29
  by_cases e : i = j
  · have e1 : ((i : Int) = (j : Int)) = True := eq_true (by omega)
    have e2 : ((i : Int) == (j : Int)) = true := beq_iff_eq.mpr (by omega)
    have e3 : decide ((i : Int) = (j : Int)) = true := decide_eq_true (by omega)
    rw [hstar.mpr (Or.inl e)]
    clear e hm hC hk hown h0 h1 h2 h3 h4 hi hj hs hid hstar HKD HOWN
    go_enter Try.func88, Try.ntmps88
    go_wp2
    go_ret
    exact HS.out.post HK.out
  · have e1 : ((i : Int) = (j : Int)) = False := eq_false (by omega)
    have e2 : ((i : Int) == (j : Int)) = false := beq_eq_false_iff_ne.mpr (by omega)
    have e3 : decide ((i : Int) = (j : Int)) = false := decide_eq_false (by omega)
    have HT : Aside0 (∀ k, i < k → k ≤ j → mt (bytesOf s) x i k = true → mt (bytesOf s) (.star x) k j = true → mt (bytesOf s) (.star x) i j = true) := ⟨fun k a1 a2 a3 a4 => hstar.mpr (Or.inr ⟨k, a1, a2, a3, a4⟩)⟩
    have HN : Aside0 ((∀ k, i < k → k ≤ j → ¬ (mt (bytesOf s) x i k = true ∧ mt (bytesOf s) (.star x) k j = true)) → mt (bytesOf s) (.star x) i j = false) := ⟨fun hh => by
      rw [← Bool.not_eq_true]
      intro ht
      rcases hstar.mp ht with h | ⟨k, a1, a2, a3, a4⟩
      · exact e h
      · exact hh k a1 a2 ⟨a3, a4⟩⟩
    have HIJ : Aside0 (i < j) := ⟨by omega⟩
    have HC0 := am_ h0
    have HC1 := am_ h1
    have HC2 := am_ h2
    have HBX : Aside0 ((W.alloc (Obj.cells #[.int .i64 8, .string l, .slice (some ad) 1 c] 29)).heap[W.heap.size]? = some (.cells #[.int .i64 8, .string l, .slice (some ad) 1 c] 29 (0, 0))) := ⟨blk_new _ _⟩
    have HNE : Aside0 (W.heap.size ≠ g) := ⟨(Nat.ne_of_lt (blk_lt hm.row)).symm⟩
    generalize mt (bytesOf s) (.star x) i j = res at HT HN ⊢
    clear e hm hC hk hown h0 h1 h2 h3 h4 hstar
    go_enter Try.func88, Try.ntmps88
    go_wp2
    go_loopg [11] (j + 2) (fun gg v11 w' => ∃ (k : Nat) (kz : Int) (t' : List Int), v11 = .int .i64 kz ∧ Aside0 (kz = (k : Int)) ∧ Aside0 (i < k ∧ k ≤ j + 1) ∧ Aside0 (j + 2 ≤ gg + k) ∧ Aside0 (∀ q, i < q → q < k → ¬ (mt (bytesOf s) x i q = true ∧ mt (bytesOf s) (.star x) q j = true)) ∧ Aside0 (St w0 (W.alloc (Obj.cells #[.int .i64 8, .string l, .slice (some ad) 1 c] 29)) w' gm g s N E t t'))
    case atStart => exact ⟨i + 1, (i : Int) + 1, t, rfl, ⟨by omega⟩, ⟨by have := HIJ.out; omega⟩, ⟨by omega⟩, ⟨fun q a1 a2 => by omega⟩, HS⟩
    case round =>
      clear HS
      obtain ⟨k, kz, t', rfl, HKZ, HKK, HG, HNO, HS⟩ := hrel
      cases gk with
      | zero => exact absurd HG.out (by have := HKK.out; omega)
      | succ gk2 =>
      by_cases hkj : k ≤ j
      · have d1 : decide (kz ≤ (j : Int)) = true := decide_eq_true (by have := HKZ.out; omega)
        have d2 : (kz ≤ (j : Int)) = True := eq_true (by have := HKZ.out; omega)
        have hw : wrap64 (kz + 1) = ((k + 1 : Nat) : Int) := by rw [HKZ.out]; exact up1 (by omega)
        have HW := am_ hw
        have k0 := HS.out.old HC0.out
        have k1 := HS.out.old HC1.out
        have k2 := HS.out.old HC2.out
        have hb0 := HS.out.cell ((blk_cell HBX.out 0).trans rfl) HNE.out
        have hb1 := HS.out.cell ((blk_cell HBX.out 1).trans rfl) HNE.out
        have hb2 := HS.out.cell ((blk_cell HBX.out 2).trans rfl) HNE.out
        have hkc := HKD.out i k _ t' (Nat.le_refl _) (by have := HKK.out; omega) hkj HS.out.inv HS.out.mem
        rw [← HKZ.out] at hkc
        have hko := fun W2 t2 => HOWN.out k W2 t2 HKK.out.1 hkj
        rw [← HKZ.out] at hko
        have HKC := am_ hkc
        have HKO := am_ hko
        have HNOT : Aside0 (mt (bytesOf s) x i k = true → mt (bytesOf s) (.star x) k j = true → res = true) := ⟨HT.out k HKK.out.1 hkj⟩
        have HNEXT : Aside0 (¬ (mt (bytesOf s) x i k = true ∧ mt (bytesOf s) (.star x) k j = true) → ∀ q, i < q → q < k + 1 → ¬ (mt (bytesOf s) x i q = true ∧ mt (bytesOf s) (.star x) q j = true)) := ⟨fun hh q a1 a2 => by
          by_cases eq : q = k
          · rw [eq]; exact hh
          · exact HNO.out q a1 (by omega)⟩
        generalize mt (bytesOf s) x i k = ra at HKC HNOT HNEXT
        generalize mt (bytesOf s) (.star x) k j = rb at HKO HNOT HNEXT
        have HKJ := am_ hkj
        clear hkc hko hw hkj
        cases ra
        · go_wp2_with ((go_at_call 80; (with_reducible refine HKC.out.mono ?_); rintro e w2 hp; obtain ⟨rfl, t2, hs2⟩ := HS.out.step hp; have HS2 := am_ hs2; (try clear hb0 hb1 hb2 k0 k1 k2); have hb0 := hs2.cell ((blk_cell HBX.out 0).trans rfl) HNE.out; have hb1 := hs2.cell ((blk_cell HBX.out 1).trans rfl) HNE.out; have hb2 := hs2.cell ((blk_cell HBX.out 2).trans rfl) HNE.out; clear hp hs2))
          go_roundg gk2
          case measure => omega
          case rel => exact ⟨k + 1, wrap64 (kz + 1), t2, rfl, HW, ⟨by have := HKK.out; have := HKJ.out; omega⟩, ⟨by have := HG.out; omega⟩, ⟨HNEXT.out (by simp)⟩, HS2⟩
        · cases rb
          · go_wp2_with (first | (go_at_call 80; (with_reducible refine HKC.out.mono ?_); rintro e w2 hp; obtain ⟨rfl, t2, hs2⟩ := HS.out.step hp; have HS2 := am_ hs2; (try clear hb0 hb1 hb2 k0 k1 k2); have hb0 := hs2.cell ((blk_cell HBX.out 0).trans rfl) HNE.out; have hb1 := hs2.cell ((blk_cell HBX.out 1).trans rfl) HNE.out; have hb2 := hs2.cell ((blk_cell HBX.out 2).trans rfl) HNE.out; clear hp hs2) | (go_at_call 80; (with_reducible refine (HKO.out _ _ HS2.out.inv HS2.out.mem).mono ?_); rintro e w3 hp; obtain ⟨rfl, t3, hs3⟩ := HS2.out.step hp; have HS3 := am_ hs3; clear hp hs3))
            go_roundg gk2
            case measure => omega
            case rel => exact ⟨k + 1, wrap64 (kz + 1), t3, rfl, HW, ⟨by have := HKK.out; have := HKJ.out; omega⟩, ⟨by have := HG.out; omega⟩, ⟨HNEXT.out (by simp)⟩, HS3⟩
          · have hres := HNOT.out rfl rfl
            subst hres
            go_wp2_with (first | (go_at_call 80; (with_reducible refine HKC.out.mono ?_); rintro e w2 hp; obtain ⟨rfl, t2, hs2⟩ := HS.out.step hp; have HS2 := am_ hs2; (try clear hb0 hb1 hb2 k0 k1 k2); have hb0 := hs2.cell ((blk_cell HBX.out 0).trans rfl) HNE.out; have hb1 := hs2.cell ((blk_cell HBX.out 1).trans rfl) HNE.out; have hb2 := hs2.cell ((blk_cell HBX.out 2).trans rfl) HNE.out; clear hp hs2) | (go_at_call 80; (with_reducible refine (HKO.out _ _ HS2.out.inv HS2.out.mem).mono ?_); rintro e w3 hp; obtain ⟨rfl, t3, hs3⟩ := HS2.out.step hp; have HS3 := am_ hs3; clear hp hs3))
            go_ret
            exact HS3.out.post HK.out
      · have d1 : decide (kz ≤ (j : Int)) = false := decide_eq_false (by have := HKZ.out; omega)
        have d2 : (kz ≤ (j : Int)) = False := eq_false (by have := HKZ.out; omega)
        have hres := HN.out (fun q a b => HNO.out q a (by omega))
        subst hres
        go_wp2
        go_ret
        exact HS.out.post HK.out
end Go.Proofs.Ytldgkgdgcfllmaa.Rg
end
section
namespace Go.Proofs.Ytldgkgdgcfllmaa.Rg
open Go.RowKit Go.Proofs.Ytldgkgdgcfllmaa.P Go.Proofs.Ytldgkgdgcfllmaa.Pl Go.Proofs.YtldgkgdgcfllmaaW.PrintWords Go.Proofs.YtldgkgdgcfllmaaW.PrintLast Go.Proofs.YtldgkgdgcfllmaaW.PrintMore
set_option linter.unusedVariables false
set_option linter.unusedSimpArgs false
theorem mt_star_self {l : List Int} {x : Rx} {i : Nat} (hi : i ≤ l.length) : mt l (.star x) i i = true := (mt_star (Nat.le_refl _) hi).mpr (Or.inl rfl)
theorem star_snoc {l : List Int} {x : Rx} {j : Nat} (hj : j ≤ l.length) : ∀ (d i m : Nat), m - i ≤ d → i ≤ m → m < j → mt l (.star x) i m = true → mt l x m j = true → mt l (.star x) i j = true := by
  intro d
  induction d with
  | zero =>
    intro i m hd hi hm h1 h2
    have : i = m := by omega
    subst this
    exact (mt_star (by omega) hj).mpr (Or.inr ⟨j, by omega, Nat.le_refl _, h2, mt_star_self hj⟩)
  | succ d ih =>
    intro i m hd hi hm h1 h2
    rcases (mt_star hi (by omega)).mp h1 with rfl | ⟨k, k1, k2, k3, k4⟩
    · exact (mt_star (by omega) hj).mpr (Or.inr ⟨j, by omega, Nat.le_refl _, h2, mt_star_self hj⟩)
    · exact (mt_star (by omega) hj).mpr (Or.inr ⟨k, k1, by omega, k3, ih k m (by omega) k2 hm k4 h2⟩)
theorem star_last {l : List Int} {x : Rx} {j : Nat} (hj : j ≤ l.length) : ∀ (d i : Nat), j - i ≤ d → i < j → mt l (.star x) i j = true → ∃ m, i ≤ m ∧ m < j ∧ mt l (.star x) i m = true ∧ mt l x m j = true := by
  intro d
  induction d with
  | zero => intro i hd hi; omega
  | succ d ih =>
    intro i hd hi h
    rcases (mt_star (by omega) hj).mp h with rfl | ⟨k, k1, k2, k3, k4⟩
    · omega
    · by_cases e : k = j
      · subst e
        exact ⟨i, Nat.le_refl _, hi, mt_star_self (by omega), k3⟩
      · obtain ⟨m, m1, m2, m3, m4⟩ := ih k (by omega) (by omega) k4
        exact ⟨m, by omega, m2, (mt_star (by omega) (by omega)).mpr (Or.inr ⟨k, k1, m1, k3, m3⟩), m4⟩
theorem mt_star_end {l : List Int} {x : Rx} {i j : Nat} (hi : i ≤ j) (hj : j ≤ l.length) : mt l (.star x) i j = true ↔ i = j ∨ ∃ m, i ≤ m ∧ m < j ∧ mt l (.star x) i m = true ∧ mt l x m j = true := by
  constructor
  · intro h
    by_cases e : i = j
    · exact Or.inl e
    · exact Or.inr (star_last hj (j - i) i (Nat.le_refl _) (by omega) h)
  · rintro (rfl | ⟨m, m1, m2, m3, m4⟩)
    · exact mt_star_self hj
    · exact star_snoc hj (m - i) i m (Nat.le_refl _) m1 m2 m3 m4
def kindOf : Rx → Int
  | .none => 1
  | .empty => 2
  | .letter _ => 3
  | .any => 4
  | .cat _ _ => 5
  | .or _ _ => 6
  | .and _ _ => 7
  | .star _ => 8
  | .not _ => 9
def pn : Rx → List Rx
  | .cat x y => pn x ++ pn y ++ [.cat x y]
  | .or x y => pn x ++ pn y ++ [.or x y]
  | .and x y => pn x ++ pn y ++ [.and x y]
  | .star x => pn x ++ [.star x]
  | .not x => pn x ++ [.not x]
  | .none => [.none]
  | .empty => [.empty]
  | .letter c => [.letter c]
  | .any => [.any]
def pcs : Rx → Nat → List (List Int)
  | .cat x y, b => pcs x b ++ pcs y (b + sz x) ++ [[((b + sz x - 1 : Nat) : Int), ((b + sz x + sz y - 1 : Nat) : Int)]]
  | .or x y, b => pcs x b ++ pcs y (b + sz x) ++ [[((b + sz x - 1 : Nat) : Int), ((b + sz x + sz y - 1 : Nat) : Int)]]
  | .and x y, b => pcs x b ++ pcs y (b + sz x) ++ [[((b + sz x - 1 : Nat) : Int), ((b + sz x + sz y - 1 : Nat) : Int)]]
  | .star x, b => pcs x b ++ [[((b + sz x - 1 : Nat) : Int)]]
  | .not x, b => pcs x b ++ [[((b + sz x - 1 : Nat) : Int)]]
  | .none, _ => [[]]
  | .empty, _ => [[]]
  | .letter _, _ => [[]]
  | .any, _ => [[]]
theorem pn_len (x : Rx) : (pn x).length = sz x := by
  induction x with
  | cat x y a b | or x y a b | and x y a b => simp only [pn, sz, List.length_cons, List.length_append, List.length_nil, a, b]; omega
  | star x a | not x a => simp only [pn, sz, List.length_cons, List.length_append, List.length_nil, a]; omega
  | _ => rfl
theorem pcs_len (x : Rx) : ∀ b, (pcs x b).length = sz x := by
  induction x with
  | cat x y a b | or x y a b | and x y a b => intro q; simp only [pcs, sz, List.length_cons, List.length_append, List.length_nil, a, b]; omega
  | star x a | not x a => intro q; simp only [pcs, sz, List.length_cons, List.length_append, List.length_nil, a]; omega
  | _ => intro q; rfl
theorem pn_last (x : Rx) (X : List Rx) : (X ++ pn x)[X.length + sz x - 1]? = some x := by
  have hp := sz_pos x
  have : ∀ (L : List Rx) (y : Rx), L.length + 1 = sz x → pn x = L ++ [y] → y = x → (X ++ pn x)[X.length + sz x - 1]? = some x := fun L y hl e e2 => by
    rw [e, ← List.append_assoc, List.getElem?_append_right (by rw [List.length_append]; omega), e2, List.length_append, show X.length + sz x - 1 - (X.length + L.length) = 0 by omega]
    rfl
  cases x with
  | cat a b | or a b | and a b => exact this (pn a ++ pn b) _ (by rw [List.length_append, pn_len, pn_len]; simp only [sz]; omega) rfl rfl
  | star a | not a => exact this (pn a) _ (by rw [pn_len]; simp only [sz]; omega) rfl rfl
  | _ => exact this [] _ rfl rfl rfl
def Node (X : List Rx) (n : Nat) (c : List Int) : Rx → Prop
  | .cat a b => ∃ p q : Nat, c = [(p : Int), (q : Int)] ∧ p < n ∧ q < n ∧ X[p]? = some a ∧ X[q]? = some b
  | .or a b => ∃ p q : Nat, c = [(p : Int), (q : Int)] ∧ p < n ∧ q < n ∧ X[p]? = some a ∧ X[q]? = some b
  | .and a b => ∃ p q : Nat, c = [(p : Int), (q : Int)] ∧ p < n ∧ q < n ∧ X[p]? = some a ∧ X[q]? = some b
  | .star a => ∃ p : Nat, c = [(p : Int)] ∧ p < n ∧ X[p]? = some a
  | .not a => ∃ p : Nat, c = [(p : Int)] ∧ p < n ∧ X[p]? = some a
  | _ => True
def Good (X : List Rx) (C : List (List Int)) : Prop := C.length = X.length ∧ ∀ n x c, X[n]? = some x → C[n]? = some c → Node X n c x
theorem Node.more {X : List Rx} {n : Nat} {c : List Int} {x : Rx} (Y : List Rx) (h : Node X n c x) : Node (X ++ Y) n c x := by
  have g : ∀ {p : Nat} {a : Rx}, X[p]? = some a → (X ++ Y)[p]? = some a := fun h => by
    rw [List.getElem?_append_left (List.getElem?_eq_some_iff.mp h).1]; exact h
  cases x with
  | cat a b | or a b | and a b => obtain ⟨p, q, e, h1, h2, h3, h4⟩ := h; exact ⟨p, q, e, h1, h2, g h3, g h4⟩
  | star a | not a => obtain ⟨p, e, h1, h3⟩ := h; exact ⟨p, e, h1, g h3⟩
  | _ => trivial
theorem Good.snoc {X : List Rx} {C : List (List Int)} {x : Rx} {c : List Int} (h : Good X C) (hn : Node X X.length c x) : Good (X ++ [x]) (C ++ [c]) := by
  refine ⟨by simp [h.1], fun n y d hy hd => ?_⟩
  by_cases hlt : n < X.length
  · rw [List.getElem?_append_left hlt] at hy
    rw [List.getElem?_append_left (by rw [h.1]; exact hlt)] at hd
    exact (h.2 n y d hy hd).more _
  · have hn2 : n < (X ++ [x]).length := (List.getElem?_eq_some_iff.mp hy).1
    simp only [List.length_append, List.length_cons, List.length_nil] at hn2
    have e : n = X.length := by omega
    subst e
    rw [List.getElem?_append_right (Nat.le_refl _), Nat.sub_self] at hy
    rw [List.getElem?_append_right (by rw [h.1]; exact Nat.le_refl _), h.1, Nat.sub_self] at hd
    cases hy
    cases hd
    exact hn.more _
theorem good_build : ∀ (x : Rx) (X : List Rx) (C : List (List Int)), Good X C → Good (X ++ pn x) (C ++ pcs x X.length) := by
  have two : ∀ (h a b : Rx) (X : List Rx) (C : List (List Int)), (∀ X C, Good X C → Good (X ++ pn a) (C ++ pcs a X.length)) → (∀ X C, Good X C → Good (X ++ pn b) (C ++ pcs b X.length)) → Good X C →
      (∀ Y, (∃ p q : Nat, p < Y.length ∧ q < Y.length ∧ Y[p]? = some a ∧ Y[q]? = some b ∧ p = X.length + sz a - 1 ∧ q = X.length + sz a + sz b - 1) → Node Y Y.length [((X.length + sz a - 1 : Nat) : Int), ((X.length + sz a + sz b - 1 : Nat) : Int)] h) →
      Good (X ++ (pn a ++ pn b ++ [h])) (C ++ (pcs a X.length ++ pcs b (X.length + sz a) ++ [[((X.length + sz a - 1 : Nat) : Int), ((X.length + sz a + sz b - 1 : Nat) : Int)]])) := by
    intro h a b X C ha hb hg hn
    have g1 := ha X C hg
    have g2 := hb _ _ g1
    rw [List.length_append, pn_len] at g2
    have pa := sz_pos a
    have pb := sz_pos b
    have l1 : (X ++ pn a ++ pn b).length = X.length + sz a + sz b := by simp [pn_len]; omega
    have e1 : (X ++ pn a ++ pn b)[X.length + sz a - 1]? = some a := by
      rw [List.getElem?_append_left (by rw [List.length_append, pn_len]; omega)]
      exact pn_last a X
    have e2 : (X ++ pn a ++ pn b)[X.length + sz a + sz b - 1]? = some b := by
      have := pn_last b (X ++ pn a)
      rw [List.length_append, pn_len] at this
      exact this
    have := g2.snoc (x := h) (hn _ ⟨_, _, by rw [l1]; omega, by rw [l1]; omega, e1, e2, rfl, rfl⟩)
    simpa [List.append_assoc] using this
  have one : ∀ (h a : Rx) (X : List Rx) (C : List (List Int)), (∀ X C, Good X C → Good (X ++ pn a) (C ++ pcs a X.length)) → Good X C →
      (∀ Y, (∃ p : Nat, p < Y.length ∧ Y[p]? = some a ∧ p = X.length + sz a - 1) → Node Y Y.length [((X.length + sz a - 1 : Nat) : Int)] h) →
      Good (X ++ (pn a ++ [h])) (C ++ (pcs a X.length ++ [[((X.length + sz a - 1 : Nat) : Int)]])) := by
    intro h a X C ha hg hn
    have g1 := ha X C hg
    have pa := sz_pos a
    have l1 : (X ++ pn a).length = X.length + sz a := by simp [pn_len]
    have := g1.snoc (x := h) (hn _ ⟨_, by rw [l1]; omega, pn_last a X, rfl⟩)
    simpa [List.append_assoc] using this
  intro x
  induction x with
  | cat a b ha hb => intro X C hg; exact two _ a b X C ha hb hg (fun Y ⟨p, q, h1, h2, h3, h4, e1, e2⟩ => ⟨p, q, by rw [e1, e2], h1, h2, h3, h4⟩)
  | or a b ha hb => intro X C hg; exact two _ a b X C ha hb hg (fun Y ⟨p, q, h1, h2, h3, h4, e1, e2⟩ => ⟨p, q, by rw [e1, e2], h1, h2, h3, h4⟩)
  | and a b ha hb => intro X C hg; exact two _ a b X C ha hb hg (fun Y ⟨p, q, h1, h2, h3, h4, e1, e2⟩ => ⟨p, q, by rw [e1, e2], h1, h2, h3, h4⟩)
  | star a ha => intro X C hg; exact one _ a X C ha hg (fun Y ⟨p, h1, h3, e1⟩ => ⟨p, by rw [e1], h1, h3⟩)
  | not a ha => intro X C hg; exact one _ a X C ha hg (fun Y ⟨p, h1, h3, e1⟩ => ⟨p, by rw [e1], h1, h3⟩)
  | none => intro X C hg; exact hg.snoc trivial
  | empty => intro X C hg; exact hg.snoc trivial
  | letter c => intro X C hg; exact hg.snoc trivial
  | any => intro X C hg; exact hg.snoc trivial
end Go.Proofs.Ytldgkgdgcfllmaa.Rg
end
section
namespace Go.Proofs.Ytldgkgdgcfllmaa.Rg
open Go.RowKit Go.Shelf Go.Proofs.Ytldgkgdgcfllmaa.P Go.Proofs.Ytldgkgdgcfllmaa.Pl Go.Proofs.YtldgkgdgcfllmaaW.PrintWords Go.Proofs.YtldgkgdgcfllmaaW.PrintLast Go.Proofs.YtldgkgdgcfllmaaW.PrintMore
set_option linter.unusedVariables false
set_option linter.unusedSimpArgs false
def bit2 (b : Bool) : Int := if b then 1 else 2
def encf (N : Nat) (f : Nat → Int) : Array Value := ((List.range N).map (fun j => Value.int .i64 (f j))).toArray
theorem encf_get {N : Nat} {f : Nat → Int} {j : Nat} (h : j < N) : (encf N f)[j]? = some (.int .i64 (f j)) := by
  unfold encf
  simp [h]
def upd (V : Nat → Nat → Nat → Int) (n i j : Nat) (x : Int) : Nat → Nat → Nat → Int := fun n' i' j' => if n' = n ∧ i' = i ∧ j' = j then x else V n' i' j'
theorem encf_set {N : Nat} {V : Nat → Nat → Nat → Int} {n i j : Nat} (x : Int) : (encf N (V n i)).setIfInBounds j (.int .i64 x) = encf N (upd V n i j x n i) := by
  unfold encf
  apply Array.toList_inj.mp
  simp only [Array.toList_setIfInBounds]
  refine List.ext_getElem (by simp) (fun k h1 h2 => ?_)
  simp only [List.length_set, List.length_map, List.length_range] at h1
  rw [List.getElem_set]
  simp only [List.getElem_map, List.getElem_range, upd, true_and]
  by_cases e : j = k
  · subst e; simp
  · rw [if_neg e, if_neg (fun e2 => e e2.symm)]
theorem encf_upd {N : Nat} {V : Nat → Nat → Nat → Int} {n i j n' i' : Nat} (x : Int) (h : ¬ (n' = n ∧ i' = i)) : encf N (upd V n i j x n' i') = encf N (V n' i') := by
  unfold encf upd
  congr 1
  refine List.map_congr_left fun k _ => ?_
  rw [if_neg (fun e => h ⟨e.1, e.2.1⟩)]
structure Stat (w1 : World) (T N : Nat) (b : Nat → Nat → Nat) (a : Addr) (v : Value) : Prop where
  cell : w1.cell? a = some v
  away : ∀ n i, n < T → i < N → a.block ≠ b n i
structure Lay (w1 : World) (gz : Nat) (s : ByteArray) (N : Nat) (X : List Rx) (C : List (List Int)) (b : Nat → Nat → Nat) (an aa am : Addr) : Prop where
  inj : ∀ n i n' i', n < X.length → i < N → n' < X.length → i' < N → b n i = b n' i' → n = n' ∧ i = i'
  zs : Stat w1 X.length N b ⟨gz, 0, none⟩ (.string s)
  z1 : ∃ c, Stat w1 X.length N b ⟨gz, 1, none⟩ (.slice (some an) X.length c)
  z2 : ∃ c, Stat w1 X.length N b ⟨gz, 2, none⟩ (.slice (some aa) X.length c)
  z3 : ∃ c, Stat w1 X.length N b ⟨gz, 3, none⟩ (.slice (some am) X.length c)
  nk : ∀ n x, X[n]? = some x → Stat w1 X.length N b (an.add (n * 3)) (.int .i64 (kindOf x))
  nl : ∀ n c, X[n]? = some (.letter c) → Stat w1 X.length N b ⟨(an.add (n * 3)).block, (an.add (n * 3)).off + 1, none⟩ (.string c)
  ak : ∀ n c, C[n]? = some c → ∃ A cc, Stat w1 X.length N b (aa.add n) (.slice A c.length cc) ∧ ∀ k q, c[k]? = some q → ∃ ad, A = some ad ∧ Stat w1 X.length N b (ad.add k) (.int .i64 q)
  mr : ∀ n, n < X.length → ∃ at_ c, Stat w1 X.length N b (am.add n) (.slice (some at_) N c) ∧ ∀ i, i < N → Stat w1 X.length N b (at_.add i) (.slice (some ⟨b n i, 0, none⟩) N N)
structure Ms (w0 w1 W : World) (T N : Nat) (b : Nat → Nat → Nat) (V : Nat → Nat → Nat → Int) : Prop where
  keep : Kept w1 W (fun k => ∃ n i, n < T ∧ i < N ∧ k = b n i)
  rows : ∀ n i, n < T → i < N → W.heap[b n i]? = some (.cells (encf N (V n i)) 3 (0, 0))
  bel : Below w0.heap.size w0 W
  lb : ∀ n i, n < T → i < N → w0.heap.size ≤ b n i
section
variable {w0 w1 W W' : World} {T N : Nat} {b : Nat → Nat → Nat} {V : Nat → Nat → Nat → Int}
theorem Ms.below (h : Ms w0 w1 W T N b V) (hb : Below W.heap.size W W') : Ms w0 w1 W' T N b V := ⟨h.keep.below hb, fun n i hn hi => blk_below (h.rows n i hn hi) hb, below_then h.bel h.bel.size hb, h.lb⟩
theorem Ms.stat (h : Ms w0 w1 W T N b V) {a : Addr} {v : Value} (hc : w1.cell? a = some v) (hn : ∀ n i, n < T → i < N → a.block ≠ b n i) : W.cell? a = some v := by
  have hlt := World.block_lt_of_cell? _ _ hc
  have := h.keep.2 a.block hlt (by rintro ⟨n, i, h1, h2, e⟩; exact hn n i h1 h2 e)
  unfold World.cell? at hc ⊢
  rw [this]
  exact hc
theorem Ms.get (h : Ms w0 w1 W T N b V) {a : Addr} {v : Value} (hs : Stat w1 T N b a v) : W.cell? a = some v := h.stat hs.cell hs.away
theorem Ms.cell (h : Ms w0 w1 W T N b V) {n i j : Nat} (hn : n < T) (hi : i < N) (hj : j < N) : W.cell? ⟨b n i, j, none⟩ = some (.int .i64 (V n i j)) := (blk_cell (h.rows n i hn hi) j).trans (encf_get hj)
theorem Ms.put (h : Ms w0 w1 W T N b V) (hinj : ∀ n i n' i', n < T → i < N → n' < T → i' < N → b n i = b n' i' → n = n' ∧ i = i') {n i : Nat} (hn : n < T) (hi : i < N) (j : Nat) (x : Int) : Ms w0 w1 (W.setCell ⟨b n i, j, none⟩ (.int .i64 x)) T N b (upd V n i j x) := by
  refine ⟨h.keep.setCell (Or.inl ⟨n, i, hn, hi, rfl⟩) _, fun n' i' h1 h2 => ?_, below_set h.bel (h.lb n i hn hi), h.lb⟩
  by_cases e : n' = n ∧ i' = i
  · obtain ⟨rfl, rfl⟩ := e
    have := blk_set (h.rows n' i' h1 h2) j (.int .i64 x)
    rw [encf_set] at this
    exact this
  · rw [encf_upd x e]
    exact blk_far (h.rows n' i' h1 h2) (fun e2 => e (hinj n' i' n i h1 h2 hn hi e2)) _
end
def OkV (E : Nat → Nat → Nat → Bool) (V : Nat → Nat → Nat → Int) (n : Nat) : Prop := ∀ n' i j, n' < n → V n' i j = 0 ∨ V n' i j = bit2 (E n' i j)
def Inv (E : Nat → Nat → Nat → Bool) (V V' : Nat → Nat → Nat → Int) (n : Nat) : Prop := ∀ n' i j, V' n' i j = V n' i j ∨ (n' < n ∧ V' n' i j = bit2 (E n' i j))
section
variable {E : Nat → Nat → Nat → Bool} {V V' V2 : Nat → Nat → Nat → Int} {n p : Nat}
theorem OkV.inv (h : OkV E V n) (hi : Inv E V V' p) : OkV E V' n := fun n' i j hn => by
  rcases hi n' i j with e | ⟨_, e⟩
  · rw [e]; exact h n' i j hn
  · exact Or.inr e
theorem OkV.less (h : OkV E V n) (hp : p ≤ n) : OkV E V p := fun n' i j hn => h n' i j (by omega)
theorem Inv.refl : Inv E V V n := fun _ _ _ => Or.inl rfl
theorem Inv.trans (h : Inv E V V' n) (g : Inv E V' V2 p) (hp : p ≤ n) : Inv E V V2 n := fun n' i j => by
  rcases g n' i j with e | ⟨a, e⟩
  · rw [e]; exact h n' i j
  · exact Or.inr ⟨by omega, e⟩
theorem Inv.more (h : Inv E V V' p) (hp : p ≤ n) : Inv E V V' n := fun n' i j => by
  rcases h n' i j with e | ⟨a, e⟩
  · exact Or.inl e
  · exact Or.inr ⟨by omega, e⟩
end
def PostS (w0 w1 : World) (T N : Nat) (b : Nat → Nat → Nat) (E : Nat → Nat → Nat → Bool) (V : Nat → Nat → Nat → Int) (n : Nat) (r : Bool) (e : Ending) (W' : World) : Prop :=
  e = .returned (.bool r) ∧ ∃ V', Inv E V V' n ∧ Ms w0 w1 W' T N b V'
def KidS (w0 w1 : World) (gz T N : Nat) (b : Nat → Nat → Nat) (E : Nat → Nat → Nat → Bool) (p : Nat) (q : Int) : Prop := ∀ (i j : Nat) (W : World) (V : Nat → Nat → Nat → Int), i ≤ j → j < N → OkV E V (p + 1) → Ms w0 w1 W T N b V →
  Calls Try.prog 77 #[.pointer (some ⟨gz, 0, none⟩), .int .i64 q, .int .i64 i, .int .i64 j] W (PostS w0 w1 T N b E V (p + 1) (E p i j))
set_option maxHeartbeats 4000000 in
set_option maxRecDepth 100000 in
theorem isKnown (w0 w1 W : World) (gz : Nat) (s : ByteArray) (N : Nat) (X : List Rx) (C : List (List Int)) (b : Nat → Nat → Nat) (an aa am : Addr) (E : Nat → Nat → Nat → Bool) (V : Nat → Nat → Nat → Int) (lay : Lay w1 gz s N X C b an aa am) (n i j : Nat) (hn : n < X.length) (hi : i < N) (hj : j < N) (hN : N ≤ 1000) (hT : X.length ≤ 1000) (hm : Ms w0 w1 W X.length N b V) (hv : V n i j = bit2 (E n i j)) :
    Calls Try.prog 77 #[.pointer (some ⟨gz, 0, none⟩), .int .i64 n, .int .i64 i, .int .i64 j] W (PostS w0 w1 X.length N b E V (n + 1) (E n i j)) := by
  have HM := am_ hm
  obtain ⟨c3, z3⟩ := lay.z3
  obtain ⟨at_, ca, m1, m2⟩ := lay.mr n hn
  have k0 := hm.get z3
  have k1 := hm.get m1
  have k2 := hm.get (m2 i hi)
  have k3 := hm.cell hn hi hj
  rw [hv] at k3
  have p1 : ((0 : Int) ≤ (n : Int)) = True := eq_true (by omega)
  have q1 : ((n : Int) < (X.length : Int)) = True := eq_true (by omega)
  have p2 : ((0 : Int) ≤ (i : Int)) = True := eq_true (by omega)
  have q2 : ((i : Int) < (N : Int)) = True := eq_true (by omega)
  have p3 : ((0 : Int) ≤ (j : Int)) = True := eq_true (by omega)
  have q3 : ((j : Int) < (N : Int)) = True := eq_true (by omega)
  clear hv z3 m1 m2 lay hm
  generalize E n i j = res at k3 ⊢
  cases res <;> simp only [bit2, if_true, Bool.false_eq_true, if_false] at k3
  all_goals
    go_enter Try.func77, Try.ntmps77
    go_wp2
    go_ret
    exact ⟨rfl, V, Inv.refl, HM.out⟩
end Go.Proofs.Ytldgkgdgcfllmaa.Rg
end
section
namespace Go.Proofs.Ytldgkgdgcfllmaa.Rg
open Go.RowKit Go.Shelf Go.Proofs.Ytldgkgdgcfllmaa.P Go.Proofs.Ytldgkgdgcfllmaa.Pl Go.Proofs.YtldgkgdgcfllmaaW.PrintWords Go.Proofs.YtldgkgdgcfllmaaW.PrintLast Go.Proofs.YtldgkgdgcfllmaaW.PrintMore
set_option linter.unusedVariables false
set_option linter.unusedSimpArgs false
structure Sf (w0 w1 : World) (T N : Nat) (b : Nat → Nat → Nat) (E : Nat → Nat → Nat → Bool) (V : Nat → Nat → Nat → Int) (n : Nat) (W : World) (V' : Nat → Nat → Nat → Int) : Prop where
  ok : OkV E V n
  inv : Inv E V V' n
  mem : Ms w0 w1 W T N b V'
section
variable {w0 w1 W W' W2 : World} {T N n p : Nat} {b : Nat → Nat → Nat} {E : Nat → Nat → Nat → Bool} {V V' : Nat → Nat → Nat → Int} {r : Bool} {e : Ending}
theorem Sf.step (h : Sf w0 w1 T N b E V n W V') (hp : p < n) (g : PostS w0 w1 T N b E V' (p + 1) r e W2) : e = .returned (.bool r) ∧ ∃ V2, Sf w0 w1 T N b E V n W2 V2 := by
  obtain ⟨he, V2, h1, h2⟩ := g
  exact ⟨he, V2, h.ok, h.inv.trans h1 (by omega), h2⟩
theorem Sf.post (h : Sf w0 w1 T N b E V n W V') : PostS w0 w1 T N b E V n r (.returned (.bool r)) W := ⟨rfl, V', h.inv, h.mem⟩
theorem Sf.oks (h : Sf w0 w1 T N b E V n W V') (hp : p < n) : OkV E V' (p + 1) := (h.ok.inv h.inv).less (by omega)
theorem Sf.below (h : Sf w0 w1 T N b E V n W V') (hb : Below W.heap.size W W2) : Sf w0 w1 T N b E V n W2 V' := ⟨h.ok, h.inv, h.mem.below hb⟩
end
abbrev FindAt (w0 w1 W : World) (gz T N : Nat) (b : Nat → Nat → Nat) (E : Nat → Nat → Nat → Bool) (V : Nat → Nat → Nat → Int) (n i j : Nat) (r : Bool) : Prop :=
  Calls Try.prog 87 #[.pointer (some ⟨gz, 0, none⟩), .int .i64 n, .int .i64 i, .int .i64 j] W (PostS w0 w1 T N b E V n r)
set_option maxHeartbeats 4000000 in
set_option maxRecDepth 100000 in
theorem findLeafS (w0 w1 W : World) (gz : Nat) (s : ByteArray) (N : Nat) (X : List Rx) (C : List (List Int)) (b : Nat → Nat → Nat) (an aa am : Addr) (E : Nat → Nat → Nat → Bool) (V : Nat → Nat → Nat → Int) (lay : Lay w1 gz s N X C b an aa am) (n i j : Nat) (x : Rx) (c : List Int) (hx : X[n]? = some x) (hc : C[n]? = some c) (hk : x = .none ∨ x = .empty ∨ x = .any) (hi : i ≤ j) (hj : j ≤ s.size) (hs : s.size ≤ 900) (hT : X.length ≤ 1000) (hok : OkV E V n) (hm : Ms w0 w1 W X.length N b V) :
    FindAt w0 w1 W gz X.length N b E V n i j (mt (bytesOf s) x i j) := by
  have HS : Aside0 (Sf w0 w1 X.length N b E V n W V) := ⟨hok, Inv.refl, hm⟩
  have hn : n < X.length := (List.getElem?_eq_some_iff.mp hx).1
  have hlen : (bytesOf s).length = s.size := len_bytes s
  obtain ⟨c1, z1⟩ := lay.z1
  obtain ⟨c2, z2⟩ := lay.z2
  obtain ⟨A, cc, a1, a2⟩ := lay.ak n c hc
  have k1 := hm.get z1
  have k2 := hm.get z2
  have k3 := hm.get a1
  have k4 := hm.get (lay.nk n x hx)
  have p1 : ((0 : Int) ≤ (n : Int)) = True := eq_true (by omega)
  have q1 : ((n : Int) < (X.length : Int)) = True := eq_true (by omega)
  clear z1 z2 a1 a2 lay hx hc hok hm
  rcases hk with rfl | rfl | rfl
  · rw [mt_none]
    rw [show kindOf .none = 1 from rfl] at k4
    go_enter Try.func87, Try.ntmps87
    go_wp2
    go_ret
    exact HS.out.post
  · rw [mt_empty hi (by omega)]
    rw [show kindOf .empty = 2 from rfl] at k4
    by_cases e : i = j
    · have e1 : ((i : Int) = (j : Int)) = True := eq_true (by omega)
      have e2 : ((i : Int) == (j : Int)) = true := beq_iff_eq.mpr (by omega)
      have e3 : decide ((i : Int) = (j : Int)) = true := decide_eq_true (by omega)
      have e4 : decide (i = j) = true := decide_eq_true e
      rw [e4]
      clear e e4 hi hj hs hlen hn hT
      go_enter Try.func87, Try.ntmps87
      go_wp2
      go_ret
      exact HS.out.post
    · have e1 : ((i : Int) = (j : Int)) = False := eq_false (by omega)
      have e2 : ((i : Int) == (j : Int)) = false := beq_eq_false_iff_ne.mpr (by omega)
      have e3 : decide ((i : Int) = (j : Int)) = false := decide_eq_false (by omega)
      have e4 : decide (i = j) = false := decide_eq_false e
      rw [e4]
      clear e e4 hi hj hs hlen hn hT
      go_enter Try.func87, Try.ntmps87
      go_wp2
      go_ret
      exact HS.out.post
  · rw [mt_any hi (by omega)]
    rw [show kindOf .any = 4 from rfl] at k4
    have hw : IntKind.i64.wrap ((i : Int) + 1) = (i : Int) + 1 := wr_ (by omega) (by omega)
    by_cases e : j = i + 1
    · have e1 : ((j : Int) = (i : Int) + 1) = True := eq_true (by omega)
      have e2 : ((j : Int) == (i : Int) + 1) = true := beq_iff_eq.mpr (by omega)
      have e3 : decide ((j : Int) = (i : Int) + 1) = true := decide_eq_true (by omega)
      have e4 : decide (j = i + 1) = true := decide_eq_true e
      rw [e4]
      clear e e4 hlen
      go_enter Try.func87, Try.ntmps87
      go_wp2
      go_ret
      exact HS.out.post
    · have e1 : ((j : Int) = (i : Int) + 1) = False := eq_false (by omega)
      have e2 : ((j : Int) == (i : Int) + 1) = false := beq_eq_false_iff_ne.mpr (by omega)
      have e3 : decide ((j : Int) = (i : Int) + 1) = false := decide_eq_false (by omega)
      have e4 : decide (j = i + 1) = false := decide_eq_false e
      rw [e4]
      clear e e4 hlen
      go_enter Try.func87, Try.ntmps87
      go_wp2
      go_ret
      exact HS.out.post
set_option maxHeartbeats 4000000 in
set_option maxRecDepth 100000 in
theorem findNotS (w0 w1 W : World) (gz : Nat) (s : ByteArray) (N : Nat) (X : List Rx) (C : List (List Int)) (b : Nat → Nat → Nat) (an aa am : Addr) (E : Nat → Nat → Nat → Bool) (V : Nat → Nat → Nat → Int) (lay : Lay w1 gz s N X C b an aa am) (n i j p : Nat) (y : Rx) (hx : X[n]? = some (.not y)) (hc : C[n]? = some [(p : Int)]) (hp : p < n) (hi : i ≤ j) (hj : j < N) (hT : X.length ≤ 1000) (hok : OkV E V n) (hm : Ms w0 w1 W X.length N b V) (hk : KidS w0 w1 gz X.length N b E p (p : Int)) :
    FindAt w0 w1 W gz X.length N b E V n i j (!E p i j) := by
  have HS : Aside0 (Sf w0 w1 X.length N b E V n W V) := ⟨hok, Inv.refl, hm⟩
  have hn : n < X.length := (List.getElem?_eq_some_iff.mp hx).1
  obtain ⟨c1, z1⟩ := lay.z1
  obtain ⟨c2, z2⟩ := lay.z2
  obtain ⟨A, cc, a1, a2⟩ := lay.ak n _ hc
  obtain ⟨ad, rfl, a3⟩ := a2 0 _ rfl
  rw [Addr.add_zero'] at a3
  have k1 := hm.get z1
  have k2 := hm.get z2
  have k3 := hm.get a1
  have k4 := hm.get (lay.nk n _ hx)
  have k5 := hm.get a3
  have p1 : ((0 : Int) ≤ (n : Int)) = True := eq_true (by omega)
  have q1 : ((n : Int) < (X.length : Int)) = True := eq_true (by omega)
  have HKC := am_ (hk i j W V hi hj (HS.out.oks hp) hm)
  have HP := am_ hp
  rw [show ([(p : Int)] : List Int).length = 1 from rfl] at k3
  rw [show kindOf (.not y) = 9 from rfl] at k4
  generalize E p i j = res at HKC ⊢
  clear z1 z2 a1 a2 a3 lay hx hc hok hm hk hp
  cases res
  all_goals
    go_enter Try.func87, Try.ntmps87
    go_wp2_with (go_at_call 77; (with_reducible refine HKC.out.mono ?_); rintro e w2 hp; obtain ⟨rfl, V2, hs2⟩ := HS.out.step HP.out hp; have HS2 := am_ hs2; clear hp hs2)
    go_ret
    exact HS2.out.post
set_option maxHeartbeats 4000000 in
set_option maxRecDepth 100000 in
theorem findTwoS (w0 w1 W : World) (gz : Nat) (s : ByteArray) (N : Nat) (X : List Rx) (C : List (List Int)) (b : Nat → Nat → Nat) (an aa am : Addr) (E : Nat → Nat → Nat → Bool) (V : Nat → Nat → Nat → Int) (lay : Lay w1 gz s N X C b an aa am) (n i j p q : Nat) (x y z : Rx) (hx : X[n]? = some x) (hz : (x = .or y z ∧ true = true) ∨ (x = .and y z ∧ true = true)) (hc : C[n]? = some [(p : Int), (q : Int)]) (hp : p < n) (hq : q < n) (hi : i ≤ j) (hj : j < N) (hT : X.length ≤ 1000) (hok : OkV E V n) (hm : Ms w0 w1 W X.length N b V) (hk : KidS w0 w1 gz X.length N b E p (p : Int)) (hk2 : KidS w0 w1 gz X.length N b E q (q : Int)) (R : Bool) (h1 : x = .or y z → R = (E p i j || E q i j)) (h2 : x = .and y z → R = (E p i j && E q i j)) :
    FindAt w0 w1 W gz X.length N b E V n i j R := by
  have HS : Aside0 (Sf w0 w1 X.length N b E V n W V) := ⟨hok, Inv.refl, hm⟩
  have hn : n < X.length := (List.getElem?_eq_some_iff.mp hx).1
  obtain ⟨c1, z1⟩ := lay.z1
  obtain ⟨c2, z2⟩ := lay.z2
  obtain ⟨A, cc, a1, a2⟩ := lay.ak n _ hc
  obtain ⟨ad, rfl, a3⟩ := a2 0 _ rfl
  obtain ⟨ad2, he, a4⟩ := a2 1 _ rfl
  cases he
  rw [Addr.add_zero'] at a3
  rw [show ad.add 1 = ⟨ad.block, ad.off + 1, none⟩ from rfl] at a4
  have k1 := hm.get z1
  have k2 := hm.get z2
  have k3 := hm.get a1
  have k4 := hm.get (lay.nk n _ hx)
  have k5 := hm.get a3
  have p1 : ((0 : Int) ≤ (n : Int)) = True := eq_true (by omega)
  have q1 : ((n : Int) < (X.length : Int)) = True := eq_true (by omega)
  have HKC := am_ (hk i j W V hi hj (HS.out.oks hp) hm)
  have HKD := am_ (fun W2 V2 (h : Sf w0 w1 X.length N b E V n W2 V2) => hk2 i j W2 V2 hi hj (h.oks hq) h.mem)
  have HP := am_ hp
  have HQ := am_ hq
  have HA4 := am_ a4
  rw [show ([(p : Int), (q : Int)] : List Int).length = 2 from rfl] at k3
  generalize E p i j = ra at HKC h1 h2
  generalize E q i j = rb at HKD h1 h2
  clear z1 z2 a1 a2 a3 a4 hc hok hm hk hp hk2 hq lay hi hj
  rcases hz with ⟨rfl, _⟩ | ⟨rfl, _⟩
  · rw [show kindOf (.or y z) = 6 from rfl] at k4
    have hr := h1 rfl
    subst hr
    clear h1 h2 hx
    cases ra
    · rw [Bool.false_or]
      cases rb
      all_goals
        go_enter Try.func87, Try.ntmps87
        go_wp2_with (first | (go_at_call 77; (with_reducible refine HKC.out.mono ?_); rintro e w2 hp; obtain ⟨rfl, V2, hs2⟩ := HS.out.step HP.out hp; have HS2 := am_ hs2; have k9 := hs2.mem.get HA4.out; clear hp hs2) | (go_at_call 77; (with_reducible refine (HKD.out _ _ HS2.out).mono ?_); rintro e w3 hp; obtain ⟨rfl, V3, hs3⟩ := HS2.out.step HQ.out hp; have HS3 := am_ hs3; clear hp hs3))
        go_ret
        exact HS3.out.post
    · rw [Bool.true_or]
      go_enter Try.func87, Try.ntmps87
      go_wp2_with (go_at_call 77; (with_reducible refine HKC.out.mono ?_); rintro e w2 hp; obtain ⟨rfl, V2, hs2⟩ := HS.out.step HP.out hp; have HS2 := am_ hs2; have k9 := hs2.mem.get HA4.out; clear hp hs2)
      go_ret
      exact HS2.out.post
  · rw [show kindOf (.and y z) = 7 from rfl] at k4
    have hr := h2 rfl
    subst hr
    clear h1 h2 hx
    cases ra
    · rw [Bool.false_and]
      go_enter Try.func87, Try.ntmps87
      go_wp2_with (go_at_call 77; (with_reducible refine HKC.out.mono ?_); rintro e w2 hp; obtain ⟨rfl, V2, hs2⟩ := HS.out.step HP.out hp; have HS2 := am_ hs2; have k9 := hs2.mem.get HA4.out; clear hp hs2)
      go_ret
      exact HS2.out.post
    · rw [Bool.true_and]
      cases rb
      all_goals
        go_enter Try.func87, Try.ntmps87
        go_wp2_with (first | (go_at_call 77; (with_reducible refine HKC.out.mono ?_); rintro e w2 hp; obtain ⟨rfl, V2, hs2⟩ := HS.out.step HP.out hp; have HS2 := am_ hs2; have k9 := hs2.mem.get HA4.out; clear hp hs2) | (go_at_call 77; (with_reducible refine (HKD.out _ _ HS2.out).mono ?_); rintro e w3 hp; obtain ⟨rfl, V3, hs3⟩ := HS2.out.step HQ.out hp; have HS3 := am_ hs3; clear hp hs3))
        go_ret
        exact HS3.out.post
set_option maxHeartbeats 4000000 in
set_option maxRecDepth 100000 in
theorem findCatS (w0 w1 W : World) (gz : Nat) (s : ByteArray) (N : Nat) (X : List Rx) (C : List (List Int)) (b : Nat → Nat → Nat) (an aa am : Addr) (E : Nat → Nat → Nat → Bool) (V : Nat → Nat → Nat → Int) (lay : Lay w1 gz s N X C b an aa am) (n i j p q : Nat) (y z : Rx) (hx : X[n]? = some (.cat y z)) (hc : C[n]? = some [(p : Int), (q : Int)]) (hp : p < n) (hq : q < n) (hi : i ≤ j) (hj : j < N) (hN : N ≤ 1000) (hT : X.length ≤ 1000) (hok : OkV E V n) (hm : Ms w0 w1 W X.length N b V) (hk : KidS w0 w1 gz X.length N b E p (p : Int)) (hk2 : KidS w0 w1 gz X.length N b E q (q : Int)) (res : Bool)
    (hy : ∀ k, i ≤ k → k ≤ j → E p i k = true → E q k j = true → res = true) (hno : (∀ k, i ≤ k → k ≤ j → ¬ (E p i k = true ∧ E q k j = true)) → res = false) :
    FindAt w0 w1 W gz X.length N b E V n i j res := by
  have HS : Aside0 (Sf w0 w1 X.length N b E V n W V) := ⟨hok, Inv.refl, hm⟩
  have hn : n < X.length := (List.getElem?_eq_some_iff.mp hx).1
  obtain ⟨c1, z1⟩ := lay.z1
  obtain ⟨c2, z2⟩ := lay.z2
  obtain ⟨A, cc, a1, a2⟩ := lay.ak n _ hc
  obtain ⟨ad, rfl, a3⟩ := a2 0 _ rfl
  obtain ⟨ad2, he, a4⟩ := a2 1 _ rfl
  cases he
  rw [Addr.add_zero'] at a3
  rw [show ad.add 1 = ⟨ad.block, ad.off + 1, none⟩ from rfl] at a4
  have k1 := hm.get z1
  have k2 := hm.get z2
  have k3 := hm.get a1
  have k4 := hm.get (lay.nk n _ hx)
  have p1 : ((0 : Int) ≤ (n : Int)) = True := eq_true (by omega)
  have q1 : ((n : Int) < (X.length : Int)) = True := eq_true (by omega)
  have HKC := am_ (fun k W2 V2 (h : Sf w0 w1 X.length N b E V n W2 V2) (h1 : i ≤ k) (h2 : k ≤ j) => hk i k W2 V2 h1 (by omega) (h.oks hp) h.mem)
  have HKD := am_ (fun k W2 V2 (h : Sf w0 w1 X.length N b E V n W2 V2) (h2 : k ≤ j) => hk2 k j W2 V2 h2 hj (h.oks hq) h.mem)
  have HP := am_ hp
  have HQ := am_ hq
  have HA3 := am_ a3
  have HA4 := am_ a4
  have HY := am_ hy
  have HN := am_ hno
  have HIJ := am_ hi
  rw [show ([(p : Int), (q : Int)] : List Int).length = 2 from rfl] at k3
  rw [show kindOf (.cat y z) = 5 from rfl] at k4
  clear z1 z2 a1 a2 a3 a4 hc hok hm hk hp hk2 hq lay hi hy hno hx hn
  go_enter Try.func87, Try.ntmps87
  go_wp2
  go_loopg [10] (j + 2) (fun gg v10 w' => ∃ (k : Nat) (kz : Int) (V' : Nat → Nat → Nat → Int), v10 = .int .i64 kz ∧ Aside0 (kz = (k : Int)) ∧ Aside0 (i ≤ k ∧ k ≤ j + 1) ∧ Aside0 (j + 2 ≤ gg + k) ∧ Aside0 (∀ q', i ≤ q' → q' < k → ¬ (E p i q' = true ∧ E q q' j = true)) ∧ Aside0 (Sf w0 w1 X.length N b E V n w' V'))
  case atStart => exact ⟨i, (i : Int), V, rfl, ⟨rfl⟩, ⟨by have := HIJ.out; omega⟩, ⟨by omega⟩, ⟨fun q' a1 a2 => by omega⟩, HS⟩
  case round =>
    clear HS
    obtain ⟨k, kz, V', rfl, HKZ, HKK, HG, HNO, HS⟩ := hrel
    cases gk with
    | zero => exact absurd HG.out (by have := HKK.out; omega)
    | succ gk2 =>
    by_cases hkj : k ≤ j
    · have d1 : decide (kz ≤ (j : Int)) = true := decide_eq_true (by have := HKZ.out; omega)
      have d2 : (kz ≤ (j : Int)) = True := eq_true (by have := HKZ.out; omega)
      have hw : wrap64 (kz + 1) = ((k + 1 : Nat) : Int) := by rw [HKZ.out]; exact up1 (by omega)
      have HW := am_ hw
      have x5 := HS.out.mem.get HA3.out
      have hkc := HKC.out k _ _ HS.out HKK.out.1 hkj
      rw [← HKZ.out] at hkc
      have hkd := fun W2 V2 h => HKD.out k W2 V2 h hkj
      rw [← HKZ.out] at hkd
      have HCA := am_ hkc
      have HCB := am_ hkd
      have HNOT : Aside0 (E p i k = true → E q k j = true → res = true) := ⟨HY.out k HKK.out.1 hkj⟩
      have HNEXT : Aside0 (¬ (E p i k = true ∧ E q k j = true) → ∀ q', i ≤ q' → q' < k + 1 → ¬ (E p i q' = true ∧ E q q' j = true)) := ⟨fun hh q' a1 a2 => by
        by_cases eq : q' = k
        · rw [eq]; exact hh
        · exact HNO.out q' a1 (by omega)⟩
      generalize E p i k = ra at HCA HNOT HNEXT
      generalize E q k j = rb at HCB HNOT HNEXT
      have HKJ := am_ hkj
      clear hkc hkd hw hkj
      cases ra
      · go_wp2_with (go_at_call 77; (with_reducible refine HCA.out.mono ?_); rintro e w2 hp; obtain ⟨rfl, V2, hs2⟩ := HS.out.step HP.out hp; have HS2 := am_ hs2; have x9 := hs2.mem.get HA4.out; clear hp hs2)
        go_roundg gk2
        case measure => omega
        case rel => exact ⟨k + 1, wrap64 (kz + 1), V2, rfl, HW, ⟨by have := HKK.out; have := HKJ.out; omega⟩, ⟨by have := HG.out; omega⟩, ⟨HNEXT.out (by simp)⟩, HS2⟩
      · cases rb
        · go_wp2_with (first | (go_at_call 77; (with_reducible refine HCA.out.mono ?_); rintro e w2 hp; obtain ⟨rfl, V2, hs2⟩ := HS.out.step HP.out hp; have HS2 := am_ hs2; have x9 := hs2.mem.get HA4.out; clear hp hs2) | (go_at_call 77; (with_reducible refine (HCB.out _ _ HS2.out).mono ?_); rintro e w3 hp; obtain ⟨rfl, V3, hs3⟩ := HS2.out.step HQ.out hp; have HS3 := am_ hs3; clear hp hs3))
          go_roundg gk2
          case measure => omega
          case rel => exact ⟨k + 1, wrap64 (kz + 1), V3, rfl, HW, ⟨by have := HKK.out; have := HKJ.out; omega⟩, ⟨by have := HG.out; omega⟩, ⟨HNEXT.out (by simp)⟩, HS3⟩
        · have hres := HNOT.out rfl rfl
          subst hres
          go_wp2_with (first | (go_at_call 77; (with_reducible refine HCA.out.mono ?_); rintro e w2 hp; obtain ⟨rfl, V2, hs2⟩ := HS.out.step HP.out hp; have HS2 := am_ hs2; have x9 := hs2.mem.get HA4.out; clear hp hs2) | (go_at_call 77; (with_reducible refine (HCB.out _ _ HS2.out).mono ?_); rintro e w3 hp; obtain ⟨rfl, V3, hs3⟩ := HS2.out.step HQ.out hp; have HS3 := am_ hs3; clear hp hs3))
          go_ret
          exact HS3.out.post
    · have d1 : decide (kz ≤ (j : Int)) = false := decide_eq_false (by have := HKZ.out; omega)
      have d2 : (kz ≤ (j : Int)) = False := eq_false (by have := HKZ.out; omega)
      have hres := HN.out (fun q' a b => HNO.out q' a (by omega))
      subst hres
      go_wp2
      go_ret
      exact HS.out.post
def Tsf6 : Bool × List (List Nat × List Nat) := (true, [([], []), ([0], [0]), ([1], [1]), ([2], [2]), ([], []), ([], []), ([3, 4, 5], [3, 4, 5]), ([], []), ([7], [7]), ([8], [8]), ([9], [9]), ([], []), ([10, 11], [10, 11]), ([12], [12]), ([13], [13]), ([6, 14], [6, 14]), ([15, 0, 1, 2, 3, 4, 5, 6, 7, 8, 9, 10, 11, 12, 13, 14, 15], [15])])
def Bsf6 : List Nat := [0, 1, 3, 7, 0, 0, 63, 0, 128, 384, 896, 0, 3968, 8064, 16256, 32767, 65535]
theorem tabsf6 : rtab .any (opsOf Try.f87 6) = Tsf6 := by kernel_rfl
theorem bitssf6 : waitsOk Tsf6.2 Bsf6 = true := by kernel_rfl
set_option maxHeartbeats 4000000 in
set_option maxRecDepth 100000 in
theorem findLetterS (w0 w1 W : World) (gz : Nat) (s : ByteArray) (N : Nat) (X : List Rx) (C : List (List Int)) (b : Nat → Nat → Nat) (an aa am : Addr) (E : Nat → Nat → Nat → Bool) (V : Nat → Nat → Nat → Int) (lay : Lay w1 gz s N X C b an aa am) (n i j : Nat) (l : ByteArray) (c : List Int) (hx : X[n]? = some (.letter l)) (hc : C[n]? = some c) (hi : i ≤ j) (hj : j ≤ s.size) (hs : s.size ≤ 900) (hT : X.length ≤ 1000) (hok : OkV E V n) (hm : Ms w0 w1 W X.length N b V) :
    FindAt w0 w1 W gz X.length N b E V n i j (mt (bytesOf s) (.letter l) i j) := by
  have HS : Aside0 (Sf w0 w1 X.length N b E V n W V) := ⟨hok, Inv.refl, hm⟩
  have hn : n < X.length := (List.getElem?_eq_some_iff.mp hx).1
  obtain ⟨c1, z1⟩ := lay.z1
  obtain ⟨c2, z2⟩ := lay.z2
  obtain ⟨A, cc, a1, a2⟩ := lay.ak n c hc
  have k0 := hm.get lay.zs
  have k1 := hm.get z1
  have k2 := hm.get z2
  have k3 := hm.get a1
  have k4 := hm.get (lay.nk n _ hx)
  have k5 := hm.get (lay.nl n _ hx)
  rw [show kindOf (.letter l) = 3 from rfl] at k4
  have p1 : ((0 : Int) ≤ (n : Int)) = True := eq_true (by omega)
  have q1 : ((n : Int) < (X.length : Int)) = True := eq_true (by omega)
  have r1 : ((0 : Int) ≤ (i : Int)) = True := eq_true (by omega)
  have r2 : ((i : Int) ≤ (j : Int)) = True := eq_true (by omega)
  have r3 : ((j : Int) ≤ (s.size : Int)) = True := eq_true (by omega)
  have r4 : (i ≤ j) = True := eq_true hi
  have r5 : (j ≤ s.size) = True := eq_true hj
  have q1n : (n < X.length) = True := eq_true hn
  rw [mt_letter, show decide (s.extract i j = l) = ((s.extract i j).toList == l.toList) from by rw [Bool.eq_iff_iff, decide_eq_true_iff, beq_iff_eq, toList_iff]]
  clear z1 z2 a1 a2 lay hx hc hok hm hi hj hs hn
  go_enter Try.func87, Try.ntmps87
  go_wp2
  refine start_ (n := 17) (S := (fun w' => w'.cell? ⟨gz, 0, none⟩ = some (.string s) ∧ w'.cell? ⟨gz, 1, none⟩ = some (.slice (some an) X.length c1) ∧ w'.cell? ⟨(an.add (n * 3)).block, (an.add (n * 3)).off + 1, none⟩ = some (.string l))) (ds := []) (bl 17 0) (by kernel_rfl) rfl rfl (⟨k0, k1, k5⟩) (fun hHeld => ?_); refine with_tabW tabsf6 bitssf6 (fun HT_ HW_ => ?_)
  refine ph_ 0 33 (bl 17 1) HT_ ?_
  refine ph_ 1 34 (bl 17 3) HT_ ?_
  refine ph_ 2 35 (bl 17 7) HT_ ?_
  refine ph_ 4 37 (bl 17 23) HT_ ?_
  refine ph_ 5 38 (bl 17 55) HT_ ?_
  refine ph_ 7 40 (bl 17 183) HT_ ?_
  refine ph_ 8 41 (bl 17 439) HT_ ?_
  refine ph_ 9 42 (bl 17 951) HT_ ?_
  refine ph_ 11 44 (bl 17 2999) HT_ ?_
  refine th_ 3 36 (bl 17 3007) HT_ HW_ hHeld ?_
  refine ph_ 6 39 (bl 17 3071) HT_ ?_
  refine th_ 10 43 (bl 17 4095) HT_ HW_ hHeld ?_
  refine ph_ 12 45 (bl 17 8191) HT_ ?_
  refine ph_ 13 46 (bl 17 16383) HT_ ?_
  refine th_ 14 47 (bl 17 32767) HT_ HW_ hHeld ?_
  refine ph_ 15 48 (bl 17 65535) HT_ ?_
  refine ph_ 16 8 (bl 17 131071) HT_ ?_
  refine done_ (done_of HT_.out (by kernel_rfl)) ?_
  clear HT_ HW_ hHeld
  go_wp2
  go_ret
  exact (HS.out.below (below_drew1 (Below.refl _ _))).post
end Go.Proofs.Ytldgkgdgcfllmaa.Rg
end
