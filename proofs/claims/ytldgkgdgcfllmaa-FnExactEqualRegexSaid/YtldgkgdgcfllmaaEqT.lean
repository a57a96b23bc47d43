/- The walk of EqualRegex: slices.EqualFunc at trees, with EqualRegex itself as its function. No condition. -/
import Derived.Shelf.Abstract
import Derived.Lib.Walk
import Derived.Test.YtldgkgdgcfllmaaTr
import Derived.Test.YtldgkgdgcfllmaaP0
namespace Go.Proofs.Ytldgkgdgcfllmaa.Wk
open Go.RowKit Go.Shelf Go.Proofs.Ytldgkgdgcfllmaa.P Go.Proofs.Ytldgkgdgcfllmaa.Pl Go.Proofs.YtldgkgdgcfllmaaW.PrintWords Go.Proofs.YtldgkgdgcfllmaaW.PrintLast Go.Proofs.YtldgkgdgcfllmaaW.PrintMore
set_option linter.unusedVariables false
set_option linter.unusedSimpArgs false

mutual
def eqT : TI → TI → Bool
  | ⟨a, s, l⟩, ⟨b, u, m⟩ => (decide (a = b) && decide (s = u)) && eqTs l m
def eqTs : List TI → List TI → Bool
  | [], [] => true
  | x :: l, y :: m => eqT x y && eqTs l m
  | [], _ :: _ => false
  | _ :: _, [] => false
end
mutual
theorem eqT_iff : ∀ x y : TI, eqT x y = true ↔ x = y
  | ⟨a, s, l⟩, ⟨b, u, m⟩ => by
    rw [eqT, Bool.and_eq_true, Bool.and_eq_true, decide_eq_true_eq, decide_eq_true_eq, eqTs_iff l m]
    constructor
    · rintro ⟨⟨h1, h2⟩, h3⟩; rw [h1, h2, h3]
    · intro h; injection h with h1 h2 h3; exact ⟨⟨h1, h2⟩, h3⟩
theorem eqTs_iff : ∀ x y : List TI, eqTs x y = true ↔ x = y
  | [], [] => by simp [eqTs]
  | x :: l, y :: m => by rw [eqTs, Bool.and_eq_true, eqT_iff x y, eqTs_iff l m, List.cons_eq_cons]
  | [], _ :: _ => by simp [eqTs]
  | _ :: _, [] => by simp [eqTs]
end
theorem eqT_true {x y : TI} : eqT x y = true ↔ x = y := eqT_iff x y
theorem eqTs_true {x y : List TI} : eqTs x y = true ↔ x = y := eqTs_iff x y
theorem eqT_false {x y : TI} : eqT x y = false ↔ ¬ x = y := by rw [← eqT_true]; simp
theorem eqTs_false {x y : List TI} : eqTs x y = false ↔ ¬ x = y := by rw [← eqTs_true]; simp
abbrev argT (x : TI) (A : Option Addr) (c : Nat) : Value := .agg #[.int .i64 x.f0, .string x.f1, .slice A x.f2.length c]
/-- EqualRegex at x, whatever stands beside it. -/
def EqAt (x : TI) : Prop := ∀ (y : TI) (A : Option Addr) (c : Nat) (B : Option Addr) (d : Nat) (W : World), Kd.C k29 W A x.f2.length x.f2 → x.f2.length ≤ c → Kd.C k29 W B y.f2.length y.f2 → y.f2.length ≤ d →
  Calls Try.prog 15 #[argT x A c, argT y B d] W fun e W' => e = .returned (.bool (eqT x y)) ∧ Below W.heap.size W W'
set_option maxHeartbeats 2000000 in
theorem eqTrees_ne (A1 A2 : Option Addr) (n1 n2 c1 c2 : Nat) (v : Value) (w : World) (hne : n1 ≠ n2) :
    Calls Try.prog 39 #[.slice A1 n1 c1, .slice A2 n2 c2, v] w fun e w' => e = .returned (.bool false) ∧ Below w.heap.size w w' := by
  have tn : ((n1 : Int) != (n2 : Int)) = true := by rw [bne_iff_ne]; omega
  clear hne
  go_enter Try.func39, Try.ntmps39
  go_wp2
  go_ret
  exact ⟨rfl, Below.refl _ _⟩
set_option maxHeartbeats 2000000 in
theorem eqTrees (a b : List TI) (A1 A2 : Option Addr) (n c1 c2 : Nat) (w : World) (hna : n = a.length) (hnb : n = b.length) (ha : Kd.C k29 w A1 a.length a) (hb : Kd.C k29 w A2 b.length b) (ih : ∀ x ∈ a, EqAt x) (eg : ∀ args w, (callFunc 15 args).run Try.prog w = .ok (.enter 15 args) w) :
    Calls Try.prog 39 #[.slice A1 n c1, .slice A2 n c2, .func (.func 15) #[] #[]] w fun e w' => e = .returned (.bool (eqTs a b)) ∧ Below w.heap.size w w' := by
  have tn : ((n : Int) != (n : Int)) = false := by simp
  have hn : n ≤ 9223372036854775807 := by rw [hna]; exact ha.2.1
  have HN := Aside0.mk hna
  have HM := Aside0.mk hnb
  have HA := Aside0.mk ha
  have HBB := Aside0.mk hb
  have IH := Aside0.mk ih
  clear hna hnb ha hb ih
  rcases Nat.eq_zero_or_pos n with h0 | h0
  · subst h0
    have e : eqTs a b = true := by
      rw [eqTs_true, List.eq_nil_of_length_eq_zero HN.out.symm, List.eq_nil_of_length_eq_zero HM.out.symm]
    rw [e]
    clear e
    go_enter Try.func39, Try.ntmps39
    go_wp2
    go_loopg [7, 8, 9, 17] 0 (fun _ _ _ _ s17 wr => s17 = .int .i64 0 ∧ wr = w)
    case atStart => exact ⟨rfl, rfl⟩
    case round =>
      obtain ⟨rfl, rfl⟩ := hrel
      go_wp2
      go_ret
      exact ⟨rfl, Below.refl _ _⟩
  · obtain ⟨ad1, hA1, hc1⟩ := HA.out.2.2 (by have := HN.out; omega)
    obtain ⟨ad2, hA2, hc2⟩ := HBB.out.2.2 (by have := HM.out; omega)
    subst hA1
    subst hA2
    clear hc1 hc2
    go_enter Try.func39, Try.ntmps39
    go_wp2
    go_loopg [7, 8, 9, 17] n (fun gg _ _ _ s17 wr => ∃ kk : Nat, s17 = .int .i64 kk ∧ Aside0 (kk ≤ n) ∧ Aside0 (n - kk ≤ gg) ∧ Aside0 (Below w.heap.size w wr) ∧ Aside0 (a.take kk = b.take kk))
    case atStart => exact ⟨0, rfl, ⟨Nat.zero_le _⟩, ⟨by omega⟩, ⟨Below.refl _ _⟩, ⟨rfl⟩⟩
    case round =>
      obtain ⟨kk, rfl, HK, HG, HB, HQ⟩ := hrel
      by_cases hlt : kk < n
      · have hltz : (kk : Int) < (n : Int) := by omega
        have hla : kk < a.length := by have := HN.out; omega
        have hlb : kk < b.length := by have := HM.out; omega
        obtain ⟨q1, Aa, ca, e1, x0, x1, x2, xl, xc⟩ := at_T29 (Kd.C_below HA.out HB.out) (kk : Int) (by omega) (by omega)
        cases e1
        obtain ⟨q2, Ab, cb, e2, y0, y1, y2, yl, yc⟩ := at_T29 (Kd.C_below HBB.out HB.out) (kk : Int) (by omega) (by omega)
        cases e2
        rw [rdTI a kk hla, Int.toNat_natCast] at x0 x1 x2
        rw [rdTI a kk hla] at xl xc
        rw [rdTI b kk hlb, Int.toNat_natCast] at y0 y1 y2
        rw [rdTI b kk hlb] at yl yc
        have HCALL := Aside0.mk (fun W (hb : Below wr.heap.size wr W) => IH.out _ (List.getElem_mem hla) b[kk] Aa ca Ab cb W (Kd.C_below xc hb) xl (Kd.C_below yc hb) yl)
        have HT : Aside0 (a.take (kk + 1) = b.take (kk + 1) ↔ a[kk] = b[kk]) := ⟨by
          rw [List.take_succ_eq_append_getElem hla, List.take_succ_eq_append_getElem hlb, HQ.out]
          constructor
          · intro h_
            have := List.append_cancel_left h_
            simpa using this
          · intro h_
            rw [h_]⟩
        have HE : Aside0 (a = b → a[kk] = b[kk]) := ⟨by rintro rfl; rfl⟩
        generalize a[kk] = xa at x0 x1 x2 HCALL HT HE
        generalize b[kk] = xb at y0 y1 y2 HCALL HT HE
        clear xl xc yl yc
        have y0 := pw_cell_below (below_alloc (Below.refl _ _) (Obj.cells #[Value.int IntKind.i64 xa.f0, Value.string xa.f1, Value.slice Aa xa.f2.length ca] 29)) y0
        have y1 := pw_cell_below (below_alloc (Below.refl _ _) (Obj.cells #[Value.int IntKind.i64 xa.f0, Value.string xa.f1, Value.slice Aa xa.f2.length ca] 29)) y1
        have y2 := pw_cell_below (below_alloc (Below.refl _ _) (Obj.cells #[Value.int IntKind.i64 xa.f0, Value.string xa.f1, Value.slice Aa xa.f2.length ca] 29)) y2
        have hq0 := eqT_true (x := xa) (y := xb)
        cases hq : eqT xa xb with
        | true =>
          rw [hq] at hq0
          have HQ1 := Aside0.mk (HT.out.mpr (hq0.mp rfl))
          have HCALL2 : Aside0 (∀ W, Below wr.heap.size wr W → Calls Try.prog 15 #[argT xa Aa ca, argT xb Ab cb] W fun e W' => e = .returned (.bool true) ∧ Below W.heap.size W W') := ⟨fun W hb => by have := HCALL.out W hb; rw [hq] at this; exact this⟩
          clear hq hq0 HCALL HT HE
          go_wp2_with (go_at_fn 15; refine (HCALL2.out _ (by exact below_alloc (below_alloc (Below.refl _ _) _) _)).mono ?_; rintro e w' ⟨rfl, hb⟩; have HB2 := Aside0.mk (below_then (below_alloc (below_alloc (Below.refl wr.heap.size wr) _) _) (by simp; omega) hb); clear hb)
          go_roundg (n - (kk + 1))
          case measure => have := HG.out; omega
          case rel => exact ⟨kk + 1, by go_num, ⟨by omega⟩, ⟨by omega⟩, ⟨below_then HB.out HB.out.size HB2.out⟩, HQ1⟩
        | false =>
          have e : eqTs a b = false := by
            rw [eqTs_false]
            intro e
            rw [eqT_false] at hq
            exact hq (HE.out e)
          have HCALL2 : Aside0 (∀ W, Below wr.heap.size wr W → Calls Try.prog 15 #[argT xa Aa ca, argT xb Ab cb] W fun e W' => e = .returned (.bool false) ∧ Below W.heap.size W W') := ⟨fun W hb => by have := HCALL.out W hb; rw [hq] at this; exact this⟩
          have HEE := Aside0.mk e
          clear hq hq0 HCALL HT HE e
          go_wp2_with (go_at_fn 15; refine (HCALL2.out _ (by exact below_alloc (below_alloc (Below.refl _ _) _) _)).mono ?_; rintro e w' ⟨rfl, hb⟩; have HB2 := Aside0.mk (below_then (below_alloc (below_alloc (Below.refl wr.heap.size wr) _) _) (by simp; omega) hb); clear hb)
          go_ret
          rw [HEE.out]
          exact ⟨rfl, below_then HB.out HB.out.size HB2.out⟩
      · have hltz : ¬ (kk : Int) < (n : Int) := by omega
        have e : kk = n := by have := HK.out; omega
        subst e
        have e : eqTs a b = true := by
          rw [eqTs_true]
          have := HQ.out
          rw [List.take_of_length_le (by have := HN.out; omega), List.take_of_length_le (by have := HM.out; omega)] at this
          exact this
        have HEE := Aside0.mk e
        clear e
        go_wp2
        go_ret
        rw [HEE.out]
        exact ⟨rfl, HB.out⟩
theorem eqTs_any (a b : List TI) (A1 A2 : Option Addr) (c1 c2 : Nat) (w : World) (ha : Kd.C k29 w A1 a.length a) (hb : Kd.C k29 w A2 b.length b) (ih : ∀ x ∈ a, EqAt x) :
    Calls Try.prog 39 #[.slice A1 a.length c1, .slice A2 b.length c2, .func (.func 15) #[] #[]] w fun e w' => e = .returned (.bool (eqTs a b)) ∧ Below w.heap.size w w' := by
  by_cases hl : a.length = b.length
  · have := eqTrees a b A1 A2 a.length c1 c2 w rfl hl ha hb ih (enters_of Try.func15 (by kernel_rfl) rfl)
    rw [hl] at this ⊢
    exact this
  · rw [show eqTs a b = false from eqTs_false.mpr (fun e => hl (by rw [e]))]
    exact eqTrees_ne A1 A2 a.length b.length c1 c2 _ w hl
set_option maxHeartbeats 2000000 in
set_option maxRecDepth 100000 in
theorem eqAt : ∀ x : TI, EqAt x := by
  refine TI.ind fun x ih => ?_
  intro y A c B d W hx hxc hy hyd
  have hu := Try.underlying29
  have HB0 := Aside0.mk (fun o1 o2 => below_alloc (below_alloc (Below.refl W.heap.size W) o1) o2)
  have HC := Aside0.mk (fun W' (hb : Below W.heap.size W W') => eqTs_any x.f2 y.f2 A B c d W' (Kd.C_below hx hb) (Kd.C_below hy hb) ih)
  have he : eqT x y = (decide (x.f0 = y.f0) && decide (x.f1 = y.f1) && eqTs x.f2 y.f2) := by
    rw [Bool.eq_iff_iff, eqT_true, Bool.and_eq_true, Bool.and_eq_true, decide_eq_true_eq, decide_eq_true_eq, eqTs_true]
    constructor
    · rintro rfl; exact ⟨⟨rfl, rfl⟩, rfl⟩
    · rintro ⟨⟨h1, h2⟩, h3⟩
      obtain ⟨x0, x1, x2⟩ := x
      obtain ⟨y0, y1, y2⟩ := y
      dsimp only at *
      rw [h1, h2, h3]
  rw [he]
  clear he hx hxc hy hyd ih
  unfold argT
  generalize eqTs x.f2 y.f2 = r at HC ⊢
  generalize x.f2.length = n1 at HC ⊢
  generalize y.f2.length = n2 at HC ⊢
  generalize x.f0 = a0 at HC ⊢
  generalize y.f0 = b0 at HC ⊢
  generalize x.f1 = s0 at HC ⊢
  generalize y.f1 = t0 at HC ⊢
  by_cases h1 : a0 = b0
  · have d1 : decide (a0 = b0) = true := decide_eq_true h1
    rw [d1, Bool.true_and]
    by_cases h2 : s0 = t0
    · have d2 : decide (s0 = t0) = true := decide_eq_true h2
      rw [d2, Bool.true_and]
      have d3 : (s0.toList == t0.toList) = true := by rw [h2]; exact beq_self_eq_true _
      have d4 : (a0 == b0) = true := by rw [h1]; exact beq_self_eq_true _
      clear h1 h2 d2
      go_enter Try.func15, Try.ntmps15
      go_wp2_with (go_at_call 39; refine (HC.out _ (by exact HB0.out _ _)).mono ?_; rintro e w' ⟨rfl, hb⟩; have HB := Aside0.mk hb; clear hb)
      go_ret
      exact ⟨rfl, below_then (HB0.out _ _) (by simp; omega) HB.out⟩
    · have d2 : decide (s0 = t0) = false := decide_eq_false h2
      rw [d2, Bool.false_and]
      have d3 : (s0.toList == t0.toList) = false := beq_eq_false_iff_ne.mpr (fun e => h2 (toList_iff.mp e))
      have d4 : (a0 == b0) = true := by rw [h1]; exact beq_self_eq_true _
      clear h1 h2 d2
      go_enter Try.func15, Try.ntmps15
      go_wp2
      go_ret
      exact ⟨rfl, HB0.out _ _⟩
  · have d1 : decide (a0 = b0) = false := decide_eq_false h1
    rw [d1, Bool.false_and, Bool.false_and]
    have d4 : (a0 == b0) = false := beq_eq_false_iff_ne.mpr h1
    clear h1
    go_enter Try.func15, Try.ntmps15
    go_wp2
    go_ret
    exact ⟨rfl, HB0.out _ _⟩
end Go.Proofs.Ytldgkgdgcfllmaa.Wk
