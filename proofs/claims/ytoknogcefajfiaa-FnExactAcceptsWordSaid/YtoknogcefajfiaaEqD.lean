/- The walk of EqualDfa: slices.EqualFunc at rows of numbers, its closure. No condition. -/
import Derived.Test.YtoknogcefajfiaaIsV
import Derived.Test.YtoknogcefajfiaaBase
import Derived.Test.YtoknogcefajfiaaP1
import Derived.Test.YtoknogcefajfiaaP5
namespace Go.Proofs.Ytoknogcefajfiaa.Wk
open Go.RowKit Go.Shelf Go.Proofs.Ytoknogcefajfiaa.P Go.Proofs.YtoknogcefajfiaaW.PrintWords Go.Proofs.YtoknogcefajfiaaW.PrintLast Go.Proofs.YtoknogcefajfiaaW.PrintMore
set_option linter.unusedVariables false
set_option linter.unusedSimpArgs false

theorem all_false {p : Nat → Bool} {n k : Nat} (h : k < n) (hp : p k = false) : (List.range n).all p = false := by
  rw [List.all_eq_false]
  exact ⟨k, List.mem_range.mpr h, by rw [hp]; simp⟩
theorem all_true {p : Nat → Bool} {n : Nat} (h : ∀ j, j < n → p j = true) : (List.range n).all p = true := by
  rw [List.all_eq_true]
  intro x hx
  exact h x (List.mem_range.mp hx)

set_option maxHeartbeats 2000000 in
theorem equalRows {V1 V2 : Nat → Value} {p : Nat → Bool} (A1 A2 : Option Addr) (n c1 c2 g : Nat) (lb : Array Value) (eg : ∀ args w, (callFunc g args).run Try.prog w = .ok (.enter g args) w) (w : World) (hn : n ≤ 9223372036854775807)
    (h1 : 0 < n → ∃ ad : Addr, A1 = some ad ∧ ∀ j, j < n → w.cell? (ad.add j) = some (V1 j))
    (h2 : 0 < n → ∃ ad : Addr, A2 = some ad ∧ ∀ j, j < n → w.cell? (ad.add j) = some (V2 j))
    (hp : ∀ j, j < n → ∀ W, Below w.heap.size w W → Calls Try.prog g (#[V1 j, V2 j] ++ lb) W fun e W' => e = .returned (.bool (p j)) ∧ Below W.heap.size W W') :
    Calls Try.prog 63 #[.slice A1 n c1, .slice A2 n c2, .func (.func g) #[] lb] w fun e w' => e = .returned (.bool ((List.range n).all p)) ∧ Below w.heap.size w w' := by
  have tn : ((n : Int) != (n : Int)) = false := by simp
  rcases Nat.eq_zero_or_pos n with h0 | h0
  · subst h0
    clear h1 h2 hp
    go_enter Try.func63, Try.ntmps63
    go_wp2
    go_loopg [7, 8, 9, 17] 0 (fun _ _ _ _ s17 wr => s17 = .int .i64 0 ∧ wr = w)
    case atStart => exact ⟨rfl, rfl⟩
    case round =>
      obtain ⟨rfl, rfl⟩ := hrel
      go_wp2
      go_ret
      exact ⟨rfl, Below.refl _ _⟩
  · obtain ⟨ad1, rfl, hc1⟩ := h1 h0
    obtain ⟨ad2, rfl, hc2⟩ := h2 h0
    clear h1 h2
    have HC1 := Aside0.mk hc1
    have HC2 := Aside0.mk hc2
    have HP := Aside0.mk hp
    clear hp hc1 hc2
    go_enter Try.func63, Try.ntmps63
    go_wp2
    go_loopg [7, 8, 9, 17] n (fun gg _ _ _ s17 wr => ∃ kk : Nat, s17 = .int .i64 kk ∧ Aside0 (kk ≤ n) ∧ Aside0 (n - kk ≤ gg) ∧ Aside0 (Below w.heap.size w wr) ∧ Aside0 (∀ j, j < kk → p j = true))
    case atStart => exact ⟨0, rfl, ⟨Nat.zero_le _⟩, ⟨by omega⟩, ⟨Below.refl _ _⟩, ⟨fun j hj => absurd hj (Nat.not_lt_zero _)⟩⟩
    case round =>
      obtain ⟨kk, rfl, HK, HG, HB, HQ⟩ := hrel
      by_cases hlt : kk < n
      · have hltz : (kk : Int) < (n : Int) := by omega
        have hcell1 : wr.cell? (ad1.add kk) = some (V1 kk) := pw_cell_below HB.out (HC1.out kk hlt)
        have hcell2 : wr.cell? (ad2.add kk) = some (V2 kk) := pw_cell_below HB.out (HC2.out kk hlt)
        have hcall := Aside0.mk (HP.out kk hlt)
        generalize hy1 : V1 kk = y1 at hcell1 hcall
        generalize hy2 : V2 kk = y2 at hcell2 hcall
        clear hy1 hy2
        cases hq : p kk with
        | true =>
          rw [hq] at hcall
          have HQ1 := Aside0.mk hq
          clear hq
          go_wp2_with (go_at_fn g; refine (hcall.out _ (by exact HB.out)).mono ?_; rintro e w' ⟨rfl, hb⟩; have HB2 := Aside0.mk hb; clear hb)
          go_roundg (n - (kk + 1))
          case measure => have := HG.out; omega
          case rel =>
            refine ⟨kk + 1, by go_num, ⟨by omega⟩, ⟨by omega⟩, ⟨below_then HB.out HB.out.size HB2.out⟩, ⟨fun j hj => ?_⟩⟩
            by_cases e : j = kk
            · subst e; exact HQ1.out
            · exact HQ.out j (by omega)
        | false =>
          rw [hq] at hcall
          have HQ1 := Aside0.mk hq
          clear hq
          go_wp2_with (go_at_fn g; refine (hcall.out _ (by exact HB.out)).mono ?_; rintro e w' ⟨rfl, hb⟩; have HB2 := Aside0.mk hb; clear hb)
          go_ret
          rw [all_false hlt HQ1.out]
          exact ⟨rfl, below_then HB.out HB.out.size HB2.out⟩
      · have hltz : ¬ (kk : Int) < (n : Int) := by omega
        have e : kk = n := by have := HK.out; omega
        subst e
        go_wp2
        go_ret
        rw [all_true HQ.out]
        exact ⟨rfl, HB.out⟩
set_option maxHeartbeats 2000000 in
theorem equalRows_ne (A1 A2 : Option Addr) (n1 n2 c1 c2 : Nat) (v : Value) (w : World) (hne : n1 ≠ n2) :
    Calls Try.prog 63 #[.slice A1 n1 c1, .slice A2 n2 c2, v] w fun e w' => e = .returned (.bool false) ∧ Below w.heap.size w w' := by
  have tn : ((n1 : Int) != (n2 : Int)) = true := by rw [bne_iff_ne]; omega
  clear hne
  go_enter Try.func63, Try.ntmps63
  go_wp2
  go_ret
  exact ⟨rfl, Below.refl _ _⟩

theorem cellsRowsC {e : Nat} {w : World} {A : Option Addr} {n : Nat} {xs : List (List Int)} (h : Kd.C (Kd.slice e (Kd.int .i64)) w A n xs) : 0 < n → ∃ ad : Addr, A = some ad ∧ ∀ j, j < n → ∃ A0 c0, w.cell? (ad.add j) = some (.slice A0 (xs.getD j []).length c0) ∧ (xs.getD j []).length ≤ c0 ∧ Kd.C (Kd.int .i64) w A0 (xs.getD j []).length (xs.getD j []) := by
  intro h0
  obtain ⟨ad, ea, hc⟩ := h.2.2 h0
  refine ⟨ad, ea, fun j hj => ?_⟩
  have hl : j < xs.length := by rw [h.1]; exact hj
  obtain ⟨c, hs, hr, hcell⟩ := hc j xs[j] (List.getElem?_eq_getElem hl)
  obtain ⟨A0, c0, rfl, h1, h2⟩ := hr
  have := hcell 0 _ rfl
  rw [show (Kd.slice e (Kd.int .i64)).sz = 1 from rfl, Nat.mul_one, Nat.add_zero] at this
  rw [List.getD_eq_getElem?_getD, List.getElem?_eq_getElem hl]
  exact ⟨A0, c0, this, h1, h2⟩
open Go.Proofs.Ytoknogcefajfiaa.Pl
theorem eqInts_l0 (a b : List Int) (hl : a.length = b.length) (hn : a.length ≤ 9223372036854775807) : ∀ d i : Nat, i + d = a.length → Ev (fun k => slices_Equal_int_int.l0 k a b (a.length : Int) i) (decide (a.drop i = b.drop i)) := by
  intro d
  induction d with
  | zero =>
    intro i h
    refine next ?_
    simp only [slices_Equal_int_int.l0, if_neg (show ¬ (i : Int) < (a.length : Int) by omega)]
    exact ev_some (by rw [List.drop_eq_nil_of_le (by omega), List.drop_eq_nil_of_le (by omega)]; simp)
  | succ d ih =>
    intro i h
    refine next ?_
    have ha : i < a.length := by omega
    have hb : i < b.length := by omega
    have e : (a.drop i = b.drop i) ↔ (a[i] = b[i] ∧ a.drop (i + 1) = b.drop (i + 1)) := by
      rw [List.drop_eq_getElem_cons ha, List.drop_eq_getElem_cons hb]
      exact List.cons_eq_cons
    simp only [slices_Equal_int_int.l0, if_pos (show (i : Int) < (a.length : Int) by omega), if_pos (show (0 : Int) ≤ i by omega), if_pos (show (i : Int) < (b.length : Int) by omega), rd_get a i ha, rd_get b i hb]
    by_cases he : a[i] = b[i]
    · simp only [if_pos he, up1 (show i < 9223372036854775807 by omega)]
      exact ev_eq (ih (i + 1) (by omega)) (decide_eq_decide.mpr (by rw [e]; exact ⟨fun x => ⟨he, x⟩, fun x => x.2⟩))
    · simp only [if_neg he]
      exact ev_some (by rw [eq_comm, decide_eq_false_iff_not, e]; exact fun x => he x.1)
theorem eqInts (a b : List Int) (hn : a.length ≤ 9223372036854775807) : Ev (fun k => slices_Equal_int_int.f k a b) (decide (a = b)) := by
  simp only [slices_Equal_int_int.f]
  by_cases h : a.length = b.length
  · simp only [if_pos (show (a.length : Int) = (b.length : Int) by omega)]
    exact eqInts_l0 a b h hn a.length 0 (by omega)
  · simp only [if_neg (show ¬ (a.length : Int) = (b.length : Int) by omega)]
    exact ev_some (by simp; intro e; exact h (by rw [e]))
theorem eqBools_l0 (a b : List Bool) (hl : a.length = b.length) (hn : a.length ≤ 9223372036854775807) : ∀ d i : Nat, i + d = a.length → Ev (fun k => slices_Equal_bool_bool.l0 k a b (a.length : Int) i) (decide (a.drop i = b.drop i)) := by
  intro d
  induction d with
  | zero =>
    intro i h
    refine next ?_
    simp only [slices_Equal_bool_bool.l0, if_neg (show ¬ (i : Int) < (a.length : Int) by omega)]
    exact ev_some (by rw [List.drop_eq_nil_of_le (by omega), List.drop_eq_nil_of_le (by omega)]; simp)
  | succ d ih =>
    intro i h
    refine next ?_
    have ha : i < a.length := by omega
    have hb : i < b.length := by omega
    have e : (a.drop i = b.drop i) ↔ (a[i] = b[i] ∧ a.drop (i + 1) = b.drop (i + 1)) := by
      rw [List.drop_eq_getElem_cons ha, List.drop_eq_getElem_cons hb]
      exact List.cons_eq_cons
    simp only [slices_Equal_bool_bool.l0, if_pos (show (i : Int) < (a.length : Int) by omega), if_pos (show (0 : Int) ≤ i by omega), if_pos (show (i : Int) < (b.length : Int) by omega), rdOf_get _ a i ha, rdOf_get _ b i hb]
    by_cases he : a[i] = b[i]
    · simp only [show (a[i] != b[i]) = false from bne_eq_false_iff_eq.mpr he, Bool.false_ne_true, if_false, up1 (show i < 9223372036854775807 by omega)]
      exact ev_eq (ih (i + 1) (by omega)) (decide_eq_decide.mpr (by rw [e]; exact ⟨fun x => ⟨he, x⟩, fun x => x.2⟩))
    · simp only [show (a[i] != b[i]) = true from bne_iff_ne.mpr he, if_true]
      exact ev_some (by rw [eq_comm, decide_eq_false_iff_not, e]; exact fun x => he x.1)
theorem eqBools (a b : List Bool) (hn : a.length ≤ 9223372036854775807) : Ev (fun k => slices_Equal_bool_bool.f k a b) (decide (a = b)) := by
  simp only [slices_Equal_bool_bool.f]
  by_cases h : a.length = b.length
  · simp only [if_pos (show (a.length : Int) = (b.length : Int) by omega)]
    exact eqBools_l0 a b h hn a.length 0 (by omega)
  · simp only [if_neg (show ¬ (a.length : Int) = (b.length : Int) by omega)]
    exact ev_some (by simp; intro e; exact h (by rw [e]))

set_option maxHeartbeats 2000000 in
theorem eqClosure (A0 : Option Addr) (c0 : Nat) (a : List Int) (A1 : Option Addr) (c1 : Nat) (b : List Int) (w : World) (ha : Kd.C (Kd.int .i64) w A0 a.length a) (hc0 : a.length ≤ c0) (hb : Kd.C (Kd.int .i64) w A1 b.length b) (hc1 : b.length ≤ c1) :
    Calls Try.prog 64 #[.slice A0 a.length c0, .slice A1 b.length c1] w fun e w' => e = .returned (.bool (decide (a = b))) ∧ Below w.heap.size w w' := by
  obtain ⟨k, hk⟩ := (eqInts a b ha.2.1).rounds
  have HC := Aside0.mk (slices_Equal_int_int.calls k A0 c0 a A1 c1 b _ w ha hc0 hb hc1 hk)
  clear hk ha hb hc0 hc1
  generalize decide (a = b) = r at HC ⊢
  go_enter Try.func64, Try.ntmps64
  go_wp2_with (go_at_call 65; refine HC.out.mono ?_; rintro e w' ⟨rfl, ⟨m, rfl⟩⟩)
  go_ret
  exact ⟨rfl, Drawn0.below ⟨⟨_, rfl⟩⟩⟩
theorem eqRows_any (A0 : Option Addr) (c0 : Nat) (a : List (List Int)) (A1 : Option Addr) (c1 : Nat) (b : List (List Int)) (w : World) (ha : Kd.C (Kd.slice 3 (Kd.int .i64)) w A0 a.length a) (hb : Kd.C (Kd.slice 3 (Kd.int .i64)) w A1 b.length b) (W : World) (hw : Below w.heap.size w W) :
    Calls Try.prog 63 #[.slice A0 a.length c0, .slice A1 b.length c1, .func (.func 64) #[] #[]] W fun e w' => e = .returned (.bool (decide (a = b))) ∧ Below W.heap.size W w' := by
  have hWa := Kd.C_below ha hw
  have hWb := Kd.C_below hb hw
  by_cases hl : a.length = b.length
  · have e : decide (a = b) = (List.range a.length).all (fun j => decide (a.getD j [] = b.getD j [])) := by
      rw [Bool.eq_iff_iff, decide_eq_true_eq, List.all_eq_true]
      constructor
      · rintro rfl x _
        simp
      · intro h
        apply List.ext_getElem hl
        intro j h1 h2
        have := h j (List.mem_range.mpr h1)
        simp only [decide_eq_true_eq, List.getD_eq_getElem?_getD, List.getElem?_eq_getElem h1, List.getElem?_eq_getElem h2, Option.getD_some] at this
        exact this
    rw [e]
    have hb2 : Calls Try.prog 63 #[.slice A0 a.length c0, .slice A1 a.length c1, .func (.func 64) #[] #[]] W fun e w' => e = .returned (.bool ((List.range a.length).all (fun j => decide (a.getD j [] = b.getD j [])))) ∧ Below W.heap.size W w' := by
      rcases Nat.eq_zero_or_pos a.length with h0 | h0
      · exact equalRows (V1 := fun _ => .bool false) (V2 := fun _ => .bool false) (p := fun j => decide (a.getD j [] = b.getD j [])) A0 A1 a.length c0 c1 64 #[] (enters_of Try.func64 (by kernel_rfl) rfl) W ha.2.1 (fun h => by omega) (fun h => by omega) (fun j hj => by omega)
      · obtain ⟨ad0, rfl, h1⟩ := cellsRowsC hWa h0
        obtain ⟨ad1, rfl, h2⟩ := cellsRowsC hWb (by omega)
        refine equalRows (V1 := fun j => (W.cell? (ad0.add j)).getD (.bool false)) (V2 := fun j => (W.cell? (ad1.add j)).getD (.bool false)) (p := fun j => decide (a.getD j [] = b.getD j [])) _ _ a.length c0 c1 64 #[] (enters_of Try.func64 (by kernel_rfl) rfl) W ha.2.1 (fun _ => ⟨ad0, rfl, fun j hj => ?_⟩) (fun _ => ⟨ad1, rfl, fun j hj => ?_⟩) (fun j hj W' hb' => ?_)
        · obtain ⟨Aj, cj, q1, _⟩ := h1 j hj
          rw [q1]; rfl
        · obtain ⟨Aj, cj, q1, _⟩ := h2 j (by omega)
          rw [q1]; rfl
        · obtain ⟨Aj, cj, q1, q2, q3⟩ := h1 j hj
          obtain ⟨Bj, dj, r1, r2, r3⟩ := h2 j (by omega)
          simp only [q1, r1, Option.getD_some]
          exact eqClosure Aj cj (a.getD j []) Bj dj (b.getD j []) W' (Kd.C_below q3 hb') q2 (Kd.C_below r3 hb') r2
    rw [← hl]
    exact hb2
  · have e : decide (a = b) = false := decide_eq_false (fun e => hl (by rw [e]))
    rw [e]
    exact equalRows_ne A0 A1 a.length b.length c0 c1 _ W hl

set_option maxHeartbeats 2000000 in
theorem equalCalls (A0_0 : Option Addr) (c0_0 : Nat) (l0_0 : List Bool) (A0_1 : Option Addr) (c0_1 : Nat) (l0_1 : List (List Int)) (A1_0 : Option Addr) (c1_0 : Nat) (l1_0 : List Bool) (A1_1 : Option Addr) (c1_1 : Nat) (l1_1 : List (List Int)) (w : World) (hr0_0 : Kd.C Kd.bool w A0_0 l0_0.length l0_0) (hc0_0 : l0_0.length ≤ c0_0) (hr0_1 : Kd.C (Kd.slice 3 (Kd.int .i64)) w A0_1 l0_1.length l0_1) (hc0_1 : l0_1.length ≤ c0_1) (hr1_0 : Kd.C Kd.bool w A1_0 l1_0.length l1_0) (hc1_0 : l1_0.length ≤ c1_0) (hr1_1 : Kd.C (Kd.slice 3 (Kd.int .i64)) w A1_1 l1_1.length l1_1) (hc1_1 : l1_1.length ≤ c1_1) :
    Calls Try.prog 21 #[.agg #[.slice A0_0 l0_0.length c0_0, .slice A0_1 l0_1.length c0_1], .agg #[.slice A1_0 l1_0.length c1_0, .slice A1_1 l1_1.length c1_1]] w fun e w' => e = .returned (.bool (decide (l0_0 = l1_0) && decide (l0_1 = l1_1))) ∧ Below w.heap.size w w' := by
  have hu := Try.underlying28
  obtain ⟨k, hk⟩ := (eqBools l0_0 l1_0 hr0_0.2.1).rounds
  have HC := Aside0.mk (fun W (hw : Below w.heap.size w W) => slices_Equal_bool_bool.calls k A0_0 c0_0 l0_0 A1_0 c1_0 l1_0 _ W (Kd.C_below hr0_0 hw) hc0_0 (Kd.C_below hr1_0 hw) hc1_0 hk)
  have HE := Aside0.mk (eqRows_any A0_1 c0_1 l0_1 A1_1 c1_1 l1_1 w hr0_1 hr1_1)
  clear hk hr0_0 hr1_0 hr0_1 hr1_1 hc0_0 hc0_1 hc1_0 hc1_1
  generalize decide (l0_1 = l1_1) = r2 at HE ⊢
  have HB0 := Aside0.mk (fun o1 o2 => below_alloc (below_alloc (Below.refl w.heap.size w) o1) o2)
  cases h : decide (l0_0 = l1_0) with
  | true =>
    rw [h] at HC
    clear h
    rw [Bool.true_and]
    go_enter Try.func21, Try.ntmps21
    go_wp2_with (first | (go_at_call 62; refine (HC.out _ (by exact HB0.out _ _)).mono ?_; rintro e w' ⟨rfl, ⟨m, rfl⟩⟩) | (go_at_call 63; refine (HE.out _ (by exact pw_below_drewN (HB0.out _ _) _)).mono ?_; rintro e w' ⟨rfl, hb⟩; have HB := Aside0.mk hb; clear hb))
    go_ret
    exact ⟨rfl, below_then (pw_below_drewN (HB0.out _ _) _) (by simp; omega) HB.out⟩
  | false =>
    rw [h] at HC
    clear h
    rw [Bool.false_and]
    go_enter Try.func21, Try.ntmps21
    go_wp2_with (go_at_call 62; refine (HC.out _ (by exact HB0.out _ _)).mono ?_; rintro e w' ⟨rfl, ⟨m, rfl⟩⟩)
    go_ret
    exact ⟨rfl, pw_below_drewN (HB0.out _ _) _⟩
end Go.Proofs.Ytoknogcefajfiaa.Wk
