/- Texts of the proof of FnDerivatives, put together. No condition. -/
import Derived.RowKit
import Derived.Lib.Walk
import Derived.Test.YtldgkgdgcfllmaaQFnDerivatives2
import Derived.Test.YtldgkgdgcfllmaaQFnDerivatives1
import Derived.Laws.StructEq
import Derived.Test.YtldgkgdgcfllmaaProg
import Derived.Below
import Derived.Deep.Draws
import Derived.Deep.AppendLies
import Derived.Maps.AppendAt
import Derived.OwnWalk
import Derived.Laws.BytesArg
import Derived.Laws.MakeOwn
import Derived.Laws.OwnMore
import Derived.Deep.OwnRows
import Derived.Tactics
import Derived.Lib.ConvBytes
import Derived.Laws.Slices
import Derived.WalkKit
import Derived.KernelRfl
import Derived.RowKit3
import Derived.Deep.LoopGhost
import Derived.Deep.QuietTactic
import Derived.BigQuiet
import Derived.WideLaws
import Derived.Deep.DeepCutAuto
import Derived.Deep.CutBlock
import Derived.Deep.RegionHeld3
import Derived.Laws.Rows
import Derived.Lib.AppendStr
import Derived.ArgAppend
import Derived.Laws.IdiomCopy
import Derived.OrdersHeld
import Derived.Laws.BitsLemmas
section
namespace Go.Proofs.Ytldgkgdgcfllmaa
open Go.RowKit Go.Proofs.Ytldgkgdgcfllmaa.P Go.Proofs.YtldgkgdgcfllmaaW.PrintWords Go.Proofs.YtldgkgdgcfllmaaW.PrintLast Go.Proofs.YtldgkgdgcfllmaaW.PrintMore
theorem pu_ {P : Program} {ops : Array Oper} {Q : Exit → Act → World → Prop} {md : Region.Mode} {S : World → Prop} {ds : List Nat} {T : Bool × List (List Nat × List Nat)} {oi : Oper} {v : Value} {fuel : Nat} {l : Array Bool} {a a' : Act} {w : World} (i N : Nat) (l' : Array Bool) (hT : Aside0 (rtab md ops = T)) (h : wpAnyLast P md ops Q S ds fuel l' a' w)
    (hi : ops[i]? = some oi := by rfl) (hN : oi.dst = some N := by rfl) (hc : anyT T l.toList l'.toList i = true := by kernel_rfl) (hQ : ∀ c a w, Q (.panic c) (a.put oi.dst v) w → Q (.panic c) a w := by exact fun _ _ _ h => h)
    (hy : Yields P ops oi v a := by exact Or.inl ⟨by rfl, by intro w'; go_simp; with_reducible rfl⟩) (ha : a.put (some N) v = a' := by simp only [pn_, sz_, ss_, i64_w, i32_w]; rfl) : wpAnyLast P md ops Q S ds (fuel + 1) l a w := pure_ l' hi hN (any_of hT.out hc) hQ hy ha h
theorem pz_ {P : Program} {ops : Array Oper} {Q : Exit → Act → World → Prop} {md : Region.Mode} {S : World → Prop} {ds : List Nat} {T : Bool × List (List Nat × List Nat)} {oi : Oper} {fuel : Nat} {l : Array Bool} {a a' : Act} {w : World} (i N : Nat) (l' : Array Bool) (hT : Aside0 (rtab md ops = T)) (h : wpAnyLast P md ops Q S ds fuel l' a' w)
    (hi : ops[i]? = some oi := by rfl) (hN : oi.dst = some N := by rfl) (hc : anyT T l.toList l'.toList i = true := by kernel_rfl) (hQ : ∀ c a w, Q (.panic c) (a.put oi.dst undef) w → Q (.panic c) a w := by exact fun _ _ _ h => h)
    (hy : Yields P ops oi undef a := by exact Or.inr ⟨by rfl, rfl⟩) (ha : a.put (some N) undef = a' := by simp only [pn_, sz_, ss_, i64_w, i32_w]; rfl) : wpAnyLast P md ops Q S ds (fuel + 1) l a w := pure_ l' hi hN (any_of hT.out hc) hQ hy ha h
theorem tk_ {P : Program} {ops : Array Oper} {Q : Exit → Act → World → Prop} {md : Region.Mode} {S : World → Prop} {ds : List Nat} {T : Bool × List (List Nat × List Nat)} {B : List Nat} {oi : Oper} {v : Value} {fuel : Nat} {l : Array Bool} {a a' : Act} {w : World} (i N : Nat) (l' : Array Bool) (hT : Aside0 (rtab md ops = T)) (hB : Aside0 (waitsOk T.2 B = true)) (hS : S w) (h : wpAnyLast P md ops Q S ds fuel l' a' w)
    (hi : ops[i]? = some oi := by rfl) (hN : oi.dst = some N := by rfl) (hc : takeW T B ds l.toList l'.toList i = true := by kernel_rfl) (hQ : ∀ c a w, Q (.panic c) (a.put oi.dst v) w → Q (.panic c) a w := by exact fun _ _ _ h => h)
    (hy : YieldsIf P ops S oi v a := by exact Or.inl ⟨by rfl, by intro w' h_; (repeat (obtain ⟨_, h_⟩ := h_)); go_simp; with_reducible rfl⟩) (ha : a.put (some N) v = a' := by simp only [pn_, sz_, ss_, i64_w, i32_w]; rfl) : wpAnyLast P md ops Q S ds (fuel + 1) l a w := take_ l' hi hN (take_ofW hT.out hB.out hc) hQ hy hS ha h
theorem ph_ {P : Program} {ops : Array Oper} {Q : Exit → Act → World → Prop} {md : Region.Mode} {S : World → Prop} {ds : List Nat} {T : Bool × List (List Nat × List Nat)} {oi : Oper} {v : Value} {fuel : Nat} {l : Array Bool} {a a' : Act} {w : World} (i N : Nat) (l' : Array Bool) (hT : Aside0 (rtab md ops = T)) (h : wpAnyLast P md ops Q S ds fuel l' a' w)
    (hi : ops[i]? = some oi := by rfl) (hN : oi.dst = some N := by rfl) (hc : anyT T l.toList l'.toList i = true := by kernel_rfl) (hQ : ∀ c a w, Q (.panic c) (a.put oi.dst v) w → Q (.panic c) a w := by exact fun _ _ _ h => h)
    (hy : Yields P ops oi v a := by exact Or.inl ⟨by rfl, by intro w'; go_simp; with_reducible rfl⟩) (ha : a.put (some N) v = a' := by simp only [Act.put, List.setIfInBounds_toArray, List.set_cons_zero, List.set_cons_succ, i64_w, i32_w]; rfl) : wpAnyLast P md ops Q S ds (fuel + 1) l a w := pure_ l' hi hN (any_of hT.out hc) hQ hy ha h
theorem th_ {P : Program} {ops : Array Oper} {Q : Exit → Act → World → Prop} {md : Region.Mode} {S : World → Prop} {ds : List Nat} {T : Bool × List (List Nat × List Nat)} {B : List Nat} {oi : Oper} {v : Value} {fuel : Nat} {l : Array Bool} {a a' : Act} {w : World} (i N : Nat) (l' : Array Bool) (hT : Aside0 (rtab md ops = T)) (hB : Aside0 (waitsOk T.2 B = true)) (hS : S w) (h : wpAnyLast P md ops Q S ds fuel l' a' w)
    (hi : ops[i]? = some oi := by rfl) (hN : oi.dst = some N := by rfl) (hc : takeW T B ds l.toList l'.toList i = true := by kernel_rfl) (hQ : ∀ c a w, Q (.panic c) (a.put oi.dst v) w → Q (.panic c) a w := by exact fun _ _ _ h => h)
    (hy : YieldsIf P ops S oi v a := by exact Or.inl ⟨by rfl, by intro w' h_; (repeat (obtain ⟨_, h_⟩ := h_)); go_simp; with_reducible rfl⟩) (ha : a.put (some N) v = a' := by simp only [Act.put, List.setIfInBounds_toArray, List.set_cons_zero, List.set_cons_succ, i64_w, i32_w]; rfl) : wpAnyLast P md ops Q S ds (fuel + 1) l a w := take_ l' hi hN (take_ofW hT.out hB.out hc) hQ hy hS ha h
theorem rr_ {p q : Prop} (h : p) (c : p → q := by intro h_; (with_reducible repeat (first | apply Kd.R_alloc | apply Kd.R_drewN | apply Kd.R_drew)); exact h_) : q := c h
theorem rb_ {p q : Prop} (h : p) (c : p → q := by intro h_; (with_reducible repeat (first | refine blk_drewN ?_ _ | refine blk_drew ?_ | refine blk_alloc ?_ _)); exact h_) : q := c h
theorem rc_ {p q : Prop} (h : p) (c : p → q := by intro h_; repeat (first | exact h_ | (with_reducible refine Kd.C_alloc ?_ _) | (with_reducible refine Kd.C_drewN ?_ _) | (with_reducible refine Kd.C_drew ?_))) : q := c h
theorem am_ {p : Prop} (h : p) : Aside0 p := ⟨h⟩
theorem ah_ {p : Prop} (h : p := by first | (with_reducible assumption) | assumption) : p := h
theorem b0_ {p q : Prop} (h : p) (c : p → q := by intro h_; repeat (first | (with_reducible first | exact h_ | apply below_alloc | apply pw_below_drewN | apply below_drew1) | exact h_)) : q := c h
theorem b1_ {p q g1 : Prop} (h : p) (h1 : g1) (c : p → g1 → q := by intro h_ h1_; repeat (first | (with_reducible first | exact h_ | apply below_alloc | apply pw_below_drewN | apply below_drew1 | refine below_set ?_ h1_) | exact h_)) : q := c h h1
theorem b2_ {p q g1 g2 : Prop} (h : p) (h1 : g1) (h2 : g2) (c : p → g1 → g2 → q := by intro h_ h1_ h2_; repeat (first | (with_reducible first | exact h_ | apply below_alloc | apply pw_below_drewN | apply below_drew1 | refine below_set ?_ h1_ | refine below_set ?_ h2_) | exact h_)) : q := c h h1 h2
theorem b3_ {p q g1 g2 g3 : Prop} (h : p) (h1 : g1) (h2 : g2) (h3 : g3) (c : p → g1 → g2 → g3 → q := by intro h_ h1_ h2_ h3_; repeat (first | (with_reducible first | exact h_ | apply below_alloc | apply pw_below_drewN | apply below_drew1 | refine below_set ?_ h1_ | refine below_set ?_ h2_ | refine below_set ?_ h3_) | exact h_)) : q := c h h1 h2 h3
theorem k0_ {p q : Prop} (h : p) (c : p → q := by intro h_; repeat (first | (with_reducible first | exact h_ | apply KeepBut.set_ | apply keep_drewN | apply keep_drew | apply keep_alloc) | exact h_)) : q := c h
theorem k1_ {p q g1 : Prop} (h : p) (h1 : g1) (c : p → g1 → q := by intro h_ h1_; repeat (first | (with_reducible first | exact h_ | apply KeepBut.set_ | apply keep_drewN | apply keep_drew | apply keep_alloc | refine keep_far ?_ h1_ _) | exact h_)) : q := c h h1
theorem k2_ {p q g1 g2 : Prop} (h : p) (h1 : g1) (h2 : g2) (c : p → g1 → g2 → q := by intro h_ h1_ h2_; repeat (first | (with_reducible first | exact h_ | apply KeepBut.set_ | apply keep_drewN | apply keep_drew | apply keep_alloc | refine keep_far ?_ h1_ _ | refine keep_far ?_ h2_ _) | exact h_)) : q := c h h1 h2
theorem rn_ {p q : Prop} (h : p) (c : p → q := by intro h_; (with_reducible repeat (first | apply Kd.N_alloc | apply Kd.N_drewN | apply Kd.N_drew)); exact h_) : q := c h
theorem ck_ {w : World} {g : Nat} {cs : Array Value} {t : TypeId} (h : Aside0 (w.heap[g]? = some (.cells cs t (0, 0)))) (i : Nat) {v : Value} (e : cs[i]? = some v) : w.cell? ⟨g, i, none⟩ = some v := (blk_cell h.out i).trans e
theorem sz_ {n : Nat} {w w' : World} (h : Aside0 (n ≤ w.heap.size)) {B : Nat} (hb : Below B w w') : Aside0 (n ≤ w'.heap.size) := ⟨Nat.le_trans h.out hb.size⟩
theorem bt_ {w w1 w2 : World} (h : Aside0 (Below w.heap.size w w1)) (hb : Below w1.heap.size w1 w2) : Aside0 (Below w.heap.size w w2) := ⟨below_then h.out h.out.size hb⟩
theorem pb4_ {w w' : World} {a0 a1 a2 a3 : Addr} {v0 v1 v2 v3 : Value} (hb : Below w.heap.size w w') (h : w.cell? a0 = some v0 ∧ w.cell? a1 = some v1 ∧ w.cell? a2 = some v2 ∧ w.cell? a3 = some v3) : w'.cell? a0 = some v0 ∧ w'.cell? a1 = some v1 ∧ w'.cell? a2 = some v2 ∧ w'.cell? a3 = some v3 := ⟨pw_cell_below hb h.1, pw_cell_below hb h.2.1, pw_cell_below hb h.2.2.1, pw_cell_below hb h.2.2.2⟩
theorem nm_ {P : Program} {ops : Array Oper} {Q : Exit → Act → World → Prop} {md : Region.Mode} {S : World → Prop} {ds : List Nat} {fuel : Nat} {l : Array Bool} {a a' : Act} {w : World} {v : Value} (N : Nat) (h : wpAnyLast P md ops Q S ds fuel l a' w) (ha : a.put (some N) v = a' := by simp only [Act.put, List.setIfInBounds_toArray, List.set_cons_zero, List.set_cons_succ, i64_w, i32_w]; rfl) : wpAnyLast P md ops Q S ds fuel l (a.put (some N) v) w := by
  subst ha
  exact h
theorem on_ {P : Program} {ops : Array Oper} {Q : Exit → Act → World → Prop} {md : Region.Mode} {S : World → Prop} {ds : List Nat} {T : Bool × List (List Nat × List Nat)} {oi : Oper} {fuel : Nat} {l : Array Bool} {a : Act} {w : World} (i : Nat) (N : Option Nat) (l' : Array Bool) (hT : Aside0 (rtab md ops = T))
    (h : ∀ K : Act → World → Prop, Shut (∀ a' w', S w' → (S w' → wpAnyLast P md ops Q S ds fuel l' a' w') → K a' w') → if Region.wanted oi (yielded ops a.tmps) = true then Oper.wp P oi a w K Q else K (a.put N undef) w)
    (hi : ops[i]? = some oi := by rfl) (hN : oi.dst = N := by rfl) (hc : (readyT T.2 l.toList == [i] && l.toList.set i true == l'.toList) = true := by kernel_rfl) (hd : i ∉ ds := by decide) : wpAnyLast P md ops Q S ds (fuel + 1) l a w := one_ l' hi hN (one_of hT.out hc) hd h
section
variable {P : Program} {ops : Array Oper} {Q : Exit → Act → World → Prop}
theorem gL_ {rest : List Oper} {oi : Oper} {a : Act} {w : World} (N : Option Tmp) {f : FuncId} {fn : Func} {as_ : Array Operand} {ts : Array TypeId} (hf : P.funcs[f]? = some fn) (args : Array Value)
    (h : Calls P f args w fun e w' => ∃ v, e = .returned v ∧ wpList P ops Q rest (a.put N v) w')
    (hd : oi.dst = N := by rfl) (hg : oi.guard = none := by rfl) (hname : (fn.name == "runtime.NumGoroutine") = false := by kernel_rfl) (hb : fn.body.isSome = true := by rfl)
    (hop : oi.op = .call { callee := .value (.func f), args := as_, argTypes := ts } := by rfl) (hargs : as_.map a.eval = args := by (try simp only [List.map_toArray, List.map_cons, List.map_nil]); first | done | rfl | (simp only [List.length_drop, List.length_take]; rfl)) : wpList P ops Q (oi :: rest) a w :=
  goesL_ N hd hg hf hname hb args hop hargs h
theorem gO_ {oi : Oper} {N : Option Tmp} {a : Act} {w : World} {K : Act → World → Prop} {f : FuncId} {fn : Func} {as_ : Array Operand} {ts : Array TypeId} (hf : P.funcs[f]? = some fn) (args : Array Value)
    (h : Calls P f args w fun e w' => ∃ v, e = .returned v ∧ K (a.put N v) w')
    (hname : (fn.name == "runtime.NumGoroutine") = false := by kernel_rfl) (hb : fn.body.isSome = true := by rfl) (hw : Region.wanted oi (yielded ops a.tmps) = true := by rfl) (hN : oi.dst = N := by rfl) (hop : oi.op = .call { callee := .value (.func f), args := as_, argTypes := ts } := by rfl) (hargs : as_.map a.eval = args := by (try simp only [List.map_toArray, List.map_cons, List.map_nil]); first | done | rfl | (simp only [List.length_drop, List.length_take]; rfl)) : if Region.wanted oi (yielded ops a.tmps) = true then Oper.wp P oi a w K Q else K (a.put N undef) w :=
  goes_ hf hname hb args hw hN hop hargs h
end
end Go.Proofs.Ytldgkgdgcfllmaa
end
section
namespace Go.Proofs.YtldgkgdgcfllmaaW.PrintLast
section
variable {P : Program} {ops : Array Oper} {Q : Exit → Act → World → Prop} {md : Region.Mode} {S : World → Prop} {ds : List Nat} {T : Bool × List (List Nat × List Nat)}
end
end Go.Proofs.YtldgkgdgcfllmaaW.PrintLast
end
section
namespace Go.Proofs.YtldgkgdgcfllmaaW.PrintWords
open Go.RowKit
namespace Kd
section
variable {α : Type} {d : Kd α} {W : World} {g n : Nat} {S ok : Nat → Prop} {A : Option Addr} {ad : Addr} {xs : List α}
end
end Kd
end Go.Proofs.YtldgkgdgcfllmaaW.PrintWords
end
section
namespace Go.Proofs.YtldgkgdgcfllmaaW.PrintWords
open Go.RowKit
section
variable {w w' u : World} {m B g : Nat} {o : Obj} {row : Option Nat} {S : Nat → Prop} {a : Addr} {v : Value}
end
namespace Kd
section
variable {α : Type} {d : Kd α} {e base n m : Nat} {ok : Nat → Prop} {w w' : World} {v : Value} {A : Option Addr} {xs : List α}
end
end Kd
end Go.Proofs.YtldgkgdgcfllmaaW.PrintWords
end
section
namespace Go.Proofs.YtldgkgdgcfllmaaW.PrintWords
open Go.RowKit
section
variable {P : Program} {d : Nat} {xs ys : Array Value} {f : Field} {fs : List Field} {a b : Value} {r s : Bool} {w : World}
end
end Go.Proofs.YtldgkgdgcfllmaaW.PrintWords
end
section
namespace Go.Proofs.YtldgkgdgcfllmaaW.PrintWords
theorem Reps.one {α : Type} {R : α → List Value → Prop} {ps : List α} {cs : List Value} {p : α} {v : Value} (hp : R p [v]) (h : Reps R 1 ps cs) : Reps R 1 (p :: ps) (v :: cs) := by
  refine ⟨by simp [h.1], fun j q hq => ?_⟩
  cases j with
  | zero =>
    simp only [List.getElem?_cons_zero, Option.some.injEq] at hq
    subst hq
    simpa using hp
  | succ j =>
    simp only [List.getElem?_cons_succ] at hq
    have h1 := h.2 j q hq
    simpa [Nat.mul_one] using h1
theorem Reps.front {α : Type} {R : α → List Value → Prop} {size : Nat} {ps : List α} {cs c all : List Value} {p : α} (hp : R p c) (hc : c.length = size) (h : Reps R size ps cs) (ha : c ++ cs = all) : Reps R size (p :: ps) all := by
  subst ha
  refine ⟨by rw [List.length_append, hc, h.1, List.length_cons, Nat.succ_mul, Nat.add_comm], fun j q hq => ?_⟩
  cases j with
  | zero =>
    simp only [List.getElem?_cons_zero, Option.some.injEq] at hq
    subst hq
    rw [Nat.zero_mul, List.drop_zero, List.take_append_of_le_length (by omega), List.take_of_length_le (by omega)]
    exact hp
  | succ j =>
    simp only [List.getElem?_cons_succ] at hq
    have h1 := h.2 j q hq
    rw [Nat.succ_mul, List.drop_append, List.drop_of_length_le (by rw [hc]; exact Nat.le_add_left _ _), List.nil_append, hc, Nat.add_sub_cancel]
    exact h1
theorem Reps.c2 {α : Type} {R : α → List Value → Prop} {ps : List α} {cs : List Value} {p : α} {va vb : Value} (hp : R p [va, vb]) (h : Reps R 2 ps cs) : Reps R 2 (p :: ps) (va :: vb :: cs) := Reps.front hp rfl h rfl
theorem Reps.c3 {α : Type} {R : α → List Value → Prop} {ps : List α} {cs : List Value} {p : α} {va vb vc : Value} (hp : R p [va, vb, vc]) (h : Reps R 3 ps cs) : Reps R 3 (p :: ps) (va :: vb :: vc :: cs) := Reps.front hp rfl h rfl
theorem Reps.c4 {α : Type} {R : α → List Value → Prop} {ps : List α} {cs : List Value} {p : α} {va vb vc vd : Value} (hp : R p [va, vb, vc, vd]) (h : Reps R 4 ps cs) : Reps R 4 (p :: ps) (va :: vb :: vc :: vd :: cs) := Reps.front hp rfl h rfl
theorem Reps.c5 {α : Type} {R : α → List Value → Prop} {ps : List α} {cs : List Value} {p : α} {va vb vc vd ve : Value} (hp : R p [va, vb, vc, vd, ve]) (h : Reps R 5 ps cs) : Reps R 5 (p :: ps) (va :: vb :: vc :: vd :: ve :: cs) := Reps.front hp rfl h rfl
theorem Reps.c6 {α : Type} {R : α → List Value → Prop} {ps : List α} {cs : List Value} {p : α} {va vb vc vd ve vf : Value} (hp : R p [va, vb, vc, vd, ve, vf]) (h : Reps R 6 ps cs) : Reps R 6 (p :: ps) (va :: vb :: vc :: vd :: ve :: vf :: cs) := Reps.front hp rfl h rfl
theorem Reps.c7 {α : Type} {R : α → List Value → Prop} {ps : List α} {cs : List Value} {p : α} {va vb vc vd ve vf vg : Value} (hp : R p [va, vb, vc, vd, ve, vf, vg]) (h : Reps R 7 ps cs) : Reps R 7 (p :: ps) (va :: vb :: vc :: vd :: ve :: vf :: vg :: cs) := Reps.front hp rfl h rfl
theorem Reps.c8 {α : Type} {R : α → List Value → Prop} {ps : List α} {cs : List Value} {p : α} {va vb vc vd ve vf vg vh : Value} (hp : R p [va, vb, vc, vd, ve, vf, vg, vh]) (h : Reps R 8 ps cs) : Reps R 8 (p :: ps) (va :: vb :: vc :: vd :: ve :: vf :: vg :: vh :: cs) := Reps.front hp rfl h rfl
theorem Reps.c9 {α : Type} {R : α → List Value → Prop} {ps : List α} {cs : List Value} {p : α} {va vb vc vd ve vf vg vh vi : Value} (hp : R p [va, vb, vc, vd, ve, vf, vg, vh, vi]) (h : Reps R 9 ps cs) : Reps R 9 (p :: ps) (va :: vb :: vc :: vd :: ve :: vf :: vg :: vh :: vi :: cs) := Reps.front hp rfl h rfl
theorem Reps.c10 {α : Type} {R : α → List Value → Prop} {ps : List α} {cs : List Value} {p : α} {va vb vc vd ve vf vg vh vi vj : Value} (hp : R p [va, vb, vc, vd, ve, vf, vg, vh, vi, vj]) (h : Reps R 10 ps cs) : Reps R 10 (p :: ps) (va :: vb :: vc :: vd :: ve :: vf :: vg :: vh :: vi :: vj :: cs) := Reps.front hp rfl h rfl
end Go.Proofs.YtldgkgdgcfllmaaW.PrintWords
end
section
namespace Go.Proofs.YtldgkgdgcfllmaaW.PrintLast
section
variable {P : Program} {ops : Array Oper} {Q : Exit → Act → World → Prop} {md : Region.Mode} {T : Bool × List (List Nat × List Nat)} {B : List Nat} {O : List Nat} {b : Nat → Bool} {i j n : Nat}
end
end Go.Proofs.YtldgkgdgcfllmaaW.PrintLast
end
section
namespace Go.Proofs.YtldgkgdgcfllmaaW.PrintWords
open Go.RowKit
end Go.Proofs.YtldgkgdgcfllmaaW.PrintWords
namespace Go.Proofs.YtldgkgdgcfllmaaW.PrintLast
section
variable {ops : Array Oper} {a : Act} {o og : Oper} {g : Nat} {t : Tmp} {u : Bool}
end
end Go.Proofs.YtldgkgdgcfllmaaW.PrintLast
end
section
namespace Go.Proofs.YtldgkgdgcfllmaaW.PrintWords
open Go.RowKit
section
variable {P : Program} {ops : Array Oper} {rest : List Oper} {o : Oper} {a : Act} {Q : Exit → Act → World → Prop} {W : World}
theorem gate_guard (hw : Region.wanted o (yielded ops a.tmps) = true) (h : wpList P ops Q ({ o with guard := none } :: rest) a W) : wpList P ops Q (o :: rest) a W := by
  have h1 : Region.wanted { o with guard := none } (yielded ops a.tmps) = true := rfl
  unfold wpList at h ⊢
  rw [if_pos h1] at h
  rw [if_pos hw]
  exact h
end
end Go.Proofs.YtldgkgdgcfllmaaW.PrintWords
end
section
namespace Go.Proofs.Ytldgkgdgcfllmaa.P
open Go.RowKit Go.Proofs.YtldgkgdgcfllmaaW.PrintWords Go.Proofs.YtldgkgdgcfllmaaW.PrintLast Go.Proofs.YtldgkgdgcfllmaaW.PrintMore
attribute [local go_sem] max2_int min2_int max_two min_two max_three min_three max_four min_four
set_option linter.unusedVariables false
set_option linter.unusedSimpArgs false
def errW : Option Int → Value
  | none => .nilIface
  | some c => .iface 0 (.int .i64 c)
theorem errW_none : errW none = .nilIface := rfl
theorem errW_some (c : Int) : errW (some c) = .iface 0 (.int .i64 c) := rfl
theorem info9 : (Try.prog.info? 9).map (fun i => (i.zero, i.size, i.bytes)) = some (some (.string ⟨#[]⟩), 1, 16) := by kernel_rfl
theorem info29 : (Try.prog.info? 29).map (fun i => (i.zero, i.size, i.bytes)) = some (some (.agg #[(.int .i64 0), (.string ⟨#[]⟩), (.slice none 0 0)]), 3, 48) := by kernel_rfl
structure S24 where
  f0 : Int
  f1 : ByteArray
  f2 : (List S24)
structure S29 where
  f0 : Int
  f1 : ByteArray
  f2 : (List S29)
def z29 : S29 := ⟨(0 : Int), (⟨#[]⟩ : ByteArray), ([] : List S29)⟩
def F29 (d : Kd S29) : Kd S29 := Kd.iso (Kd.pair (Kd.int .i64) (Kd.pair Kd.string (Kd.slice 29 d))) (fun x : S29 => (x.f0, x.f1, x.f2))
theorem mono29 : Kd.Mono F29 := Kd.mono_iso _ (Kd.mono_pair (Kd.mono_const _) (Kd.mono_pair (Kd.mono_const _) (Kd.mono_slice 29 Kd.mono_id)))
theorem sub29 : Kd.Sub F29 [29] := Kd.sub_iso _ (Kd.sub_pair (Kd.sub_const _ (by decide)) (Kd.sub_pair (Kd.sub_const _ (by decide)) (Kd.sub_slice 29 (by decide) Kd.sub_id)))
theorem sz29 : ∀ n, (Kd.upto F29 3 [29] n).sz = 3 := Kd.upto_sz (fun _ => rfl)
def k29 : Kd S29 := Kd.fix F29 3 [29] sz29 (Kd.upto_E sub29)
theorem k29_open {w : World} {x : S29} {cs : List Value} (h : k29.K w x cs) : ∃ A2 c2, cs = [.int .i64 x.f0, .string x.f1, .slice A2 x.f2.length c2] ∧ x.f2.length ≤ c2 ∧ k29.C w A2 x.f2.length x.f2 := by
  obtain ⟨n, h⟩ := h
  cases n with
  | zero => exact h.elim
  | succ n =>
    obtain ⟨_, _, rfl, rfl, ⟨_, _, rfl, rfl, ⟨A2, c2, rfl, l2, g2⟩⟩⟩ := h
    exact ⟨A2, c2, rfl, l2, Kd.fix_C g2⟩
theorem k29_mk (w : World) (x : S29) {A2 : Option Addr} {c2 : Nat} (l2 : x.f2.length ≤ c2) (g2 : k29.C w A2 x.f2.length x.f2) : k29.K w x [.int .i64 x.f0, .string x.f1, .slice A2 x.f2.length c2] := by
  obtain ⟨n2, q2⟩ := Kd.fix_C_back mono29 g2
  have r2 := Kd.upto_C_le mono29 sz29 (show n2 ≤ n2 by omega) q2
  exact ⟨n2 + 1, ⟨[.int .i64 x.f0], [.string x.f1, .slice A2 x.f2.length c2], rfl, rfl, ⟨[.string x.f1], [.slice A2 x.f2.length c2], rfl, rfl, ⟨A2, c2, rfl, l2, r2⟩⟩⟩⟩
theorem k29_mkM (w : World) (base : Nat) (ok : Nat → Prop) (x : S29) {v2 : Value} (g2 : k29.R 29 w base ok v2 x.f2) : k29.M w base ok x [.int .i64 x.f0, .string x.f1, v2] := by
  obtain ⟨n2, q2⟩ := Kd.fix_R_back mono29 g2
  have r2 := Kd.upto_R_le mono29 sz29 (show n2 ≤ n2 by omega) q2
  exact ⟨n2 + 1, ⟨[.int .i64 x.f0], [.string x.f1, v2], rfl, rfl, ⟨[.string x.f1], [v2], rfl, rfl, ⟨v2, rfl, r2⟩⟩⟩⟩
theorem k29_mkF (W : World) (ok : Nat → Prop) (x : S29) {A2 : Option Addr} {c2 : Nat} (l2 : x.f2.length ≤ c2) (g2 : Kd.F k29 W ok A2 x.f2.length x.f2) : Kd.FK k29 W ok x [.int .i64 x.f0, .string x.f1, .slice A2 x.f2.length c2] := fun W2 hW => k29_mk W2 x l2 (g2 W2 hW)
def rd_T29 (xs : List S29) (i : Int) : S29 := xs.getD i.toNat z29
theorem at_T29 {w : World} {A : Option Addr} {n : Nat} {xs : List S29} (h : Kd.C k29 w A n xs) (i : Int) (h0 : 0 ≤ i) (h1 : i < n) : ∃ ad A2 c2, A = some ad ∧ w.cell? (ad.add (i.toNat * 3)) = some (.int .i64 (rd_T29 xs i).f0) ∧ w.cell? ⟨(ad.add (i.toNat * 3)).block, (ad.add (i.toNat * 3)).off + 1, none⟩ = some (.string (rd_T29 xs i).f1) ∧ w.cell? ⟨(ad.add (i.toNat * 3)).block, (ad.add (i.toNat * 3)).off + 2, none⟩ = some (.slice A2 (rd_T29 xs i).f2.length c2) ∧ (rd_T29 xs i).f2.length ≤ c2 ∧ k29.C w A2 (rd_T29 xs i).f2.length (rd_T29 xs i).f2 := by
  obtain ⟨ad, c, e, _, hK, hc0⟩ := Kd.C_get h z29 i h0 h1
  have hc : ∀ j u, c[j]? = some u → w.cell? (ad.add (i.toNat * 3 + j)) = some u := hc0
  obtain ⟨A2, c2, rfl, l2, g2⟩ := k29_open hK
  exact ⟨ad, A2, c2, e, hc 0 _ rfl, by rw [← add_field _ _ 1 (by omega)]; exact hc 1 _ rfl, by rw [← add_field _ _ 2 (by omega)]; exact hc 2 _ rfl, l2, g2⟩
end Go.Proofs.Ytldgkgdgcfllmaa.P
end
section
namespace Go.Proofs.Ytldgkgdgcfllmaa.P
open Go.RowKit Go.Proofs.YtldgkgdgcfllmaaW.PrintWords Go.Proofs.YtldgkgdgcfllmaaW.PrintLast Go.Proofs.YtldgkgdgcfllmaaW.PrintMore
attribute [local go_sem] max2_int min2_int max_two min_two max_three min_three max_four min_four
set_option linter.unusedVariables false
set_option linter.unusedSimpArgs false
mutual
def spec_EqualRegex.j0 : Nat → Bool → Int → ByteArray → List (S29) → Int → ByteArray → List (S29) → Option (Bool)
  | 0, _, _, _, _, _, _, _ => none
  | k + 1, x26, aE, aF, az, aG, aH, aA => if x26 = true then (some false) else (spec_EqualRegex.l0 k 0 aE aF az aG aH aA)
def spec_EqualRegex.l0 : Nat → Int → Int → ByteArray → List (S29) → Int → ByteArray → List (S29) → Option (Bool)
  | 0, _, _, _, _, _, _, _ => none
  | k + 1, x5, aE, aF, az, aG, aH, aA => if x5 < (az.length : Int) then (if 0 ≤ x5 then (if x5 < (aA.length : Int) then ((spec_EqualRegex.f k ((rd_T29 az x5).f0) ((rd_T29 az x5).f1) ((rd_T29 az x5).f2) ((rd_T29 aA x5).f0) ((rd_T29 aA x5).f1) ((rd_T29 aA x5).f2)).bind fun bw => (if bw = true then (spec_EqualRegex.l0 k (wrap64 (x5 + 1)) aE aF az aG aH aA) else (some false))) else (none)) else (none)) else (some true)
def spec_EqualRegex.f : Nat → Int → ByteArray → List (S29) → Int → ByteArray → List (S29) → Option (Bool)
  | 0, _, _, _, _, _, _ => none
  | k + 1, a0_0, a0_1, l0_2, a1_0, a1_1, l1_2 => if a0_0 = a1_0 then (if a0_1.toList = a1_1.toList then (spec_EqualRegex.j0 k ((l0_2.length : Int) != (l1_2.length : Int)) a0_0 a0_1 l0_2 a1_0 a1_1 l1_2) else (spec_EqualRegex.j0 k true a0_0 a0_1 l0_2 a1_0 a1_1 l1_2)) else (spec_EqualRegex.j0 k true a0_0 a0_1 l0_2 a1_0 a1_1 l1_2)
end
theorem spec_EqualRegex.mono_l : ∀ k, (∀ y0 y1 y2 y3 y4 y5, LeO (spec_EqualRegex.f k y0 y1 y2 y3 y4 y5) (spec_EqualRegex.f (k + 1) y0 y1 y2 y3 y4 y5)) ∧ (∀ y0 y1 y2 y3 y4 y5 y6, LeO (spec_EqualRegex.j0 k y0 y1 y2 y3 y4 y5 y6) (spec_EqualRegex.j0 (k + 1) y0 y1 y2 y3 y4 y5 y6)) ∧ (∀ y0 y1 y2 y3 y4 y5 y6, LeO (spec_EqualRegex.l0 k y0 y1 y2 y3 y4 y5 y6) (spec_EqualRegex.l0 (k + 1) y0 y1 y2 y3 y4 y5 y6))
 | 0 => ⟨fun _ _ _ _ _ _ r h => by simp [spec_EqualRegex.f] at h, fun _ _ _ _ _ _ _ r h => by simp [spec_EqualRegex.j0] at h, fun _ _ _ _ _ _ _ r h => by simp [spec_EqualRegex.l0] at h⟩
 | k + 1 => by
  obtain ⟨ih0, ih1, ih2⟩ := spec_EqualRegex.mono_l k
  refine ⟨?_, ?_, ?_⟩
  ·intro y0 y1 y2 y3 y4 y5
   unfold spec_EqualRegex.f
   repeat' first
   | (with_reducible exact ih0 _ _ _ _ _ _)
   | (with_reducible exact ih1 _ _ _ _ _ _ _)
   | (with_reducible exact ih2 _ _ _ _ _ _ _)
   | (with_reducible exact LeO.refl _)
   | (with_reducible exact LeO.none _)
   | (with_reducible refine LeO.ite ?_ ?_)
   | (with_reducible refine LeO.bind ?_ (fun _ => ?_))
   | exact ih0 _ _ _ _ _ _
   | exact ih1 _ _ _ _ _ _ _
   | exact ih2 _ _ _ _ _ _ _
   | exact LeO.none _
   | refine LeO.ite ?_ ?_
   | refine LeO.bind ?_ (fun _ => ?_)
  ·intro y0 y1 y2 y3 y4 y5 y6
   unfold spec_EqualRegex.j0
   repeat' first
   | (with_reducible exact ih0 _ _ _ _ _ _)
   | (with_reducible exact ih1 _ _ _ _ _ _ _)
   | (with_reducible exact ih2 _ _ _ _ _ _ _)
   | (with_reducible exact LeO.refl _)
   | (with_reducible exact LeO.none _)
   | (with_reducible refine LeO.ite ?_ ?_)
   | (with_reducible refine LeO.bind ?_ (fun _ => ?_))
   | exact ih0 _ _ _ _ _ _
   | exact ih1 _ _ _ _ _ _ _
   | exact ih2 _ _ _ _ _ _ _
   | exact LeO.none _
   | refine LeO.ite ?_ ?_
   | refine LeO.bind ?_ (fun _ => ?_)
  ·intro y0 y1 y2 y3 y4 y5 y6
   unfold spec_EqualRegex.l0
   repeat' first
   | (with_reducible exact ih0 _ _ _ _ _ _)
   | (with_reducible exact ih1 _ _ _ _ _ _ _)
   | (with_reducible exact ih2 _ _ _ _ _ _ _)
   | (with_reducible exact LeO.refl _)
   | (with_reducible exact LeO.none _)
   | (with_reducible refine LeO.ite ?_ ?_)
   | (with_reducible refine LeO.bind ?_ (fun _ => ?_))
   | exact ih0 _ _ _ _ _ _
   | exact ih1 _ _ _ _ _ _ _
   | exact ih2 _ _ _ _ _ _ _
   | exact LeO.none _
   | refine LeO.ite ?_ ?_
   | refine LeO.bind ?_ (fun _ => ?_)
theorem spec_EqualRegex.mono : ∀ a0 a1 a2 a3 a4 a5 k, LeO (spec_EqualRegex.f k a0 a1 a2 a3 a4 a5) (spec_EqualRegex.f (k + 1) a0 a1 a2 a3 a4 a5) := by
 intro a0 a1 a2 a3 a4 a5 k
 obtain ⟨ih0, ih1, ih2⟩ := spec_EqualRegex.mono_l k
 exact ih0 a0 a1 a2 a3 a4 a5
def spec_EqualRegex.T6 : Bool × List (List Nat × List Nat) := (true, [([], []), ([0], [0]), ([], []), ([1, 2], [1, 2]), ([3], [3]), ([], []), ([5], [5]), ([], []), ([6, 7], [6, 7]), ([8], [8]), ([4, 9], [4, 9]), ([10], [10])])
def spec_EqualRegex.B6 : List Nat := [0, 1, 0, 7, 15, 0, 32, 0, 224, 480, 1023, 2047]
theorem spec_EqualRegex.tab6 : rtab .any (opsOf Try.f13 6) = spec_EqualRegex.T6 := by kernel_rfl
theorem spec_EqualRegex.bits6 : waitsOk spec_EqualRegex.T6.2 spec_EqualRegex.B6 = true := by kernel_rfl
theorem zp2_0_ {p q g1 g2 : Prop} (h : p) (h1 : g1) (h2 : g2) (c : p → g1 → g2 → q := by intro h_ h1_ h2_; repeat (first | (with_reducible first | exact h_ | apply below_alloc | apply pw_below_drewN | apply below_drew1 | refine below_set ?_ h1_ | refine below_set ?_ h2_) | exact h_)) : q := c h h1 h2
set_option maxHeartbeats 8000000 in
set_option maxRecDepth 100000 in
theorem spec_EqualRegex.calls (k : Nat) : ∀ (a0_0 : Int) (a0_1 : ByteArray) (A0_2 : Option Addr) (c0_2 : Nat) (l0_2 : List (S29)) (a1_0 : Int) (a1_1 : ByteArray) (A1_2 : Option Addr) (c1_2 : Nat) (l1_2 : List (S29)) (r : Bool) (w : World) (hr0_2 : Kd.C k29 w A0_2 l0_2.length l0_2) (hc0_2 : l0_2.length ≤ c0_2) (hr1_2 : Kd.C k29 w A1_2 l1_2.length l1_2) (hc1_2 : l1_2.length ≤ c1_2) (h : spec_EqualRegex.f k a0_0 a0_1 l0_2 a1_0 a1_1 l1_2 = some r),
  Calls Try.prog 13 #[.agg #[.int .i64 a0_0, .string a0_1, .slice A0_2 l0_2.length c0_2], .agg #[.int .i64 a1_0, .string a1_1, .slice A1_2 l1_2.length c1_2]] w fun e w' => e = .returned (.bool r) ∧ Below w.heap.size w w' := by
 induction k using Nat.strongRecOn with
 | _ k ih =>
 intro a0_0 a0_1 A0_2 c0_2 l0_2 a1_0 a1_1 A1_2 c1_2 l1_2 r w hr0_2 hc0_2 hr1_2 hc1_2 h
 cases k with
 | zero => exact absurd h (by simp [spec_EqualRegex.f])
 | succ k =>
 simp only [spec_EqualRegex.f] at h
 have hu29 := Try.underlying29
 have bx := am_ hr0_2
 have bT := am_ hc0_2
 clear hr0_2 hc0_2
 have bz := am_ hr1_2
 have bU := am_ hc1_2
 clear hr1_2 hc1_2
 have HB := am_ (Below.refl w.heap.size w)
 have H : (if a0_0 = a1_0 then (if a0_1.toList = a1_1.toList then (spec_EqualRegex.j0 k ((l0_2.length : Int) != (l1_2.length : Int)) a0_0 a0_1 l0_2 a1_0 a1_1 l1_2) else (spec_EqualRegex.j0 k true a0_0 a0_1 l0_2 a1_0 a1_1 l1_2)) else (spec_EqualRegex.j0 k true a0_0 a0_1 l0_2 a1_0 a1_1 l1_2)) = some r := h
 clear h
 have HC3 := am_ H
 clear H
 go_enter Try.func13, Try.ntmps13
 go_upto_region 1 with (first | ((with_reducible refine gate_dst (N := 2) rfl ?_); (try (refine gate_guard (by rfl) ?_; dsimp only)); refine box_event ?hg (N := 2) ?hd (cs := #[.int .i64 a0_0, .string a0_1, .slice A0_2 l0_2.length c0_2]) (t := 29) ?hr ?_; (case hd => rfl); (case hg => rfl); (case hr => first | (go_simp; done) | (go_simp; rfl)); intro av hg w4 hbox hb; replace aa := am_ (hbox); replace bV := am_ ((by rw [hg]; exact (below_size (b0_ HB.out)) : w.heap.size ≤ av)); replace ak := am_ ((by rw [hg]; exact (below_size (b0_ HB.out)) : w.heap.size ≤ av)); replace HB := am_ (below_step (b0_ HB.out) hb); clear hb hbox hg) | ((with_reducible refine gate_dst (N := 3) rfl ?_); (try (refine gate_guard (by rfl) ?_; dsimp only)); refine box_event ?hg (N := 3) ?hd (cs := #[.int .i64 a1_0, .string a1_1, .slice A1_2 l1_2.length c1_2]) (t := 29) ?hr ?_; (case hd => rfl); (case hg => rfl); (case hr => first | (go_simp; done) | (go_simp; rfl)); intro aw hg w5 hbox hb; have n0_ := am_ (blk_below (rb_ aa.out) hb); have n1_ := am_ (below_step (b1_ HB.out ak.out) hb); have n2_ := am_ (hbox); have n3_ := am_ ((by rw [hg]; exact (below_size (b1_ HB.out ak.out)) : w.heap.size ≤ aw)); have n4_ := am_ ((by rw [hg]; exact (below_size (b1_ HB.out ak.out)) : w.heap.size ≤ aw)); have n5_ := am_ ((by rw [hg]; exact Nat.ne_of_lt (blk_lt (rb_ aa.out)) : av ≠ aw)); have n6_ := am_ ((by rw [hg]; exact Nat.ne_of_gt (blk_lt (rb_ aa.out)) : aw ≠ av)); clear aa; clear HB; have aa := n0_; have HB := n1_; have ad := n2_; have bW := n3_; have aB := n4_; have ax := n5_; have ay := n6_; clear n0_ n1_ n2_ n3_ n4_ n5_ n6_; clear hb hbox hg))
 (try simp only [Act.put, List.setIfInBounds_toArray, List.set_cons_zero, List.set_cons_succ])
 go_cut [26] (fun v26 wc => ∃ (kq : Nat) (aK : Bool), v26 = .bool aK ∧ Aside0 (spec_EqualRegex.j0 kq aK a0_0 a0_1 l0_2 a1_0 a1_1 l1_2 = some r) ∧ Aside0 (kq ≤ k) ∧ Aside0 (wc.heap[av]? = some (.cells #[.int .i64 a0_0, .string a0_1, (.slice A0_2 l0_2.length c0_2)] 29 (0, 0))) ∧ Aside0 (wc.heap[aw]? = some (.cells #[.int .i64 a1_0, .string a1_1, (.slice A1_2 l1_2.length c1_2)] 29 (0, 0))) ∧ Aside0 (Below w.heap.size w wc))
 case first =>
  have H := HC3.out
  clear HC3
  by_cases c6 : a0_0 = a1_0
  ·rw [if_pos c6] at H
   have c6b0 : (a0_0 == a1_0) = true := beq_iff_eq.mpr c6
   have c6b1 : (a0_0 != a1_0) = false := bne_eq_false_iff_eq.mpr c6
   clear c6
   (first | rw [c6b0] | (simp only [i64_w, i32_w]; rw [c6b0]) | skip)
   by_cases c7 : a0_1.toList = a1_1.toList
   ·rw [if_pos c7] at H
    have c7b0 : (a0_1.toList == a1_1.toList) = true := beq_iff_eq.mpr c7
    have c7b1 : (a0_1.toList != a1_1.toList) = false := bne_eq_false_iff_eq.mpr c7
    clear c7
    have H' := am_ H
    clear H
    have ch := ax.out
    have ci := ay.out
    have bq := ck_ (v := (.int .i64 a0_0)) aa 0 rfl
    have br := ck_ (v := (.string a0_1)) aa 1 rfl
    have bs := ck_ (v := (.slice A0_2 l0_2.length c0_2)) aa 2 rfl
    have bt := blk_frozen aa.out 0
    have bu := blk_frozen aa.out 1
    have bv := blk_frozen aa.out 2
    have aL := ck_ (v := (.int .i64 a1_0)) ad 0 rfl
    have aM := ck_ (v := (.string a1_1)) ad 1 rfl
    have aN := ck_ (v := (.slice A1_2 l1_2.length c1_2)) ad 2 rfl
    have aO := blk_frozen ad.out 0
    have aP := blk_frozen ad.out 1
    have aQ := blk_frozen ad.out 2
    go_wp2
    go_meet
    case rel => exact ⟨_, (((l0_2.length : Int) != (l1_2.length : Int))), (by first | rfl | (simp; done) | (simp [*]; done)), H', ⟨by first | omega | exact Nat.le_refl _⟩, ⟨by refine rb_ ?_; exact aa.out⟩, ⟨by refine rb_ ?_; exact ad.out⟩, ⟨by exact zp2_0_ HB.out ak.out aB.out⟩⟩
   ·rw [if_neg c7] at H
    have c7b0 : (a0_1.toList == a1_1.toList) = false := beq_eq_false_iff_ne.mpr c7
    have c7b1 : (a0_1.toList != a1_1.toList) = true := bne_iff_ne.mpr c7
    have H' := am_ H
    clear H
    have bX := ax.out
    have bY := ay.out
    have aR := ck_ (v := (.int .i64 a0_0)) aa 0 rfl
    have aS := ck_ (v := (.string a0_1)) aa 1 rfl
    have aT := ck_ (v := (.slice A0_2 l0_2.length c0_2)) aa 2 rfl
    have aU := blk_frozen aa.out 0
    have aV := blk_frozen aa.out 1
    have aW := blk_frozen aa.out 2
    have aX := ck_ (v := (.int .i64 a1_0)) ad 0 rfl
    have aY := ck_ (v := (.string a1_1)) ad 1 rfl
    have aZ := ck_ (v := (.slice A1_2 l1_2.length c1_2)) ad 2 rfl
    have ba := blk_frozen ad.out 0
    have bb := blk_frozen ad.out 1
    have bc := blk_frozen ad.out 2
    go_wp2
    go_meet
    case rel => exact ⟨_, (true), (by first | rfl | (simp; done) | (simp [*]; done)), H', ⟨by first | omega | exact Nat.le_refl _⟩, ⟨by refine rb_ ?_; exact aa.out⟩, ⟨by refine rb_ ?_; exact ad.out⟩, ⟨by exact zp2_0_ HB.out ak.out aB.out⟩⟩
  ·rw [if_neg c6] at H
   have c6b0 : (a0_0 == a1_0) = false := beq_eq_false_iff_ne.mpr c6
   have c6b1 : (a0_0 != a1_0) = true := bne_iff_ne.mpr c6
   (first | rw [c6b0] | (simp only [i64_w, i32_w]; rw [c6b0]) | skip)
   have H' := am_ H
   clear H
   have bZ := ax.out
   have ca := ay.out
   have bd := ck_ (v := (.int .i64 a0_0)) aa 0 rfl
   have be := ck_ (v := (.string a0_1)) aa 1 rfl
   have bf := ck_ (v := (.slice A0_2 l0_2.length c0_2)) aa 2 rfl
   have bg := blk_frozen aa.out 0
   have bh := blk_frozen aa.out 1
   have bi := blk_frozen aa.out 2
   have bj := ck_ (v := (.int .i64 a1_0)) ad 0 rfl
   have bk := ck_ (v := (.string a1_1)) ad 1 rfl
   have bm := ck_ (v := (.slice A1_2 l1_2.length c1_2)) ad 2 rfl
   have bn := blk_frozen ad.out 0
   have bo := blk_frozen ad.out 1
   have bp := blk_frozen ad.out 2
   go_wp2
   go_meet
   case rel => exact ⟨_, (true), (by first | rfl | (simp; done) | (simp [*]; done)), H', ⟨by first | omega | exact Nat.le_refl _⟩, ⟨by refine rb_ ?_; exact aa.out⟩, ⟨by refine rb_ ?_; exact ad.out⟩, ⟨by exact zp2_0_ HB.out ak.out aB.out⟩⟩
 case rest =>
  clear HC3
  try clear c1
  try clear p2
  try clear c6
  try clear c6b0
  try clear c6b1
  try clear c7
  try clear c7b0
  try clear c7b1
  try clear c8
  try clear c11
  try clear c13
  try clear c14
  try clear aL
  try clear aM
  try clear aN
  try clear aR
  try clear aS
  try clear aT
  try clear aX
  try clear aY
  try clear aZ
  try clear bd
  try clear be
  try clear bf
  try clear bj
  try clear bk
  try clear bm
  try clear bq
  try clear br
  try clear bs
  try clear aO
  try clear aP
  try clear aQ
  try clear aU
  try clear aV
  try clear aW
  try clear ba
  try clear bb
  try clear bc
  try clear bg
  try clear bh
  try clear bi
  try clear bn
  try clear bo
  try clear bp
  try clear bt
  try clear bu
  try clear bv
  obtain ⟨kq, aK, rfl, HA, HJ2, aa, ad, HB⟩ := hcut
  cases kq with
  | zero => exact absurd HA.out (by simp [spec_EqualRegex.j0])
  | succ kj2 =>
   have H := HA.out
   clear HA
   simp only [spec_EqualRegex.j0] at H
   by_cases c17 : aK = true
   ·subst c17
    have H1 : (some false) = some r := by rw [if_pos rfl] at H; exact H
    clear H
    have H := H1
    clear H1
    obtain rfl := Option.some.inj H
    simp only [Option.some.injEq, Prod.mk.injEq] at H
    obtain ⟨rfl⟩ := H
    go_wp2
    go_ret
    exact ⟨by first | rfl | (simp [errW_none, errW_some] <;> rfl) | (simp [*, errW_none, errW_some] <;> rfl), by exact zp2_0_ HB.out ak.out aB.out⟩
   ·replace c17 := Bool.eq_false_iff.mpr c17
    subst c17
    have H1 : (spec_EqualRegex.l0 kj2 0 a0_0 a0_1 l0_2 a1_0 a1_1 l1_2) = some r := by rw [if_neg (show ¬ (false = true) by decide)] at H; exact H
    clear H
    have H := H1
    clear H1
    have H' := am_ H
    clear H
    go_wp2
    go_loopg [5] kj2 (fun kq v5 w' => ∃ (ab : Int), v5 = .int .i64 ab ∧ Aside0 (spec_EqualRegex.l0 kq ab a0_0 a0_1 l0_2 a1_0 a1_1 l1_2 = some r) ∧ Aside0 (kq ≤ kj2) ∧ Aside0 (w'.heap[av]? = some (.cells #[.int .i64 a0_0, .string a0_1, (.slice A0_2 l0_2.length c0_2)] 29 (0, 0))) ∧ Aside0 (w'.heap[aw]? = some (.cells #[.int .i64 a1_0, .string a1_1, (.slice A1_2 l1_2.length c1_2)] 29 (0, 0))) ∧ Aside0 (Below w.heap.size w w'))
    case atStart => exact ⟨(0), (by first | rfl | (simp; done) | (simp [*]; done)), H', ⟨Nat.le_refl _⟩, ⟨by refine rb_ ?_; exact aa.out⟩, ⟨by refine rb_ ?_; exact ad.out⟩, ⟨by exact zp2_0_ HB.out ak.out aB.out⟩⟩
    case round =>
     clear H'
     try clear c1
     try clear p2
     try clear c6
     try clear c6b0
     try clear c6b1
     try clear c7
     try clear c7b0
     try clear c7b1
     try clear c8
     try clear c11
     try clear c13
     try clear c14
     try clear c17
     try clear aL
     try clear aM
     try clear aN
     try clear aR
     try clear aS
     try clear aT
     try clear aX
     try clear aY
     try clear aZ
     try clear bd
     try clear be
     try clear bf
     try clear bj
     try clear bk
     try clear bm
     try clear bq
     try clear br
     try clear bs
     try clear aO
     try clear aP
     try clear aQ
     try clear aU
     try clear aV
     try clear aW
     try clear ba
     try clear bb
     try clear bc
     try clear bg
     try clear bh
     try clear bi
     try clear bn
     try clear bo
     try clear bp
     try clear bt
     try clear bu
     try clear bv
     try clear p2
     obtain ⟨ab, rfl, HA, HK2, aa, ad, HB⟩ := hrel
     cases gk with
     | zero => exact absurd HA.out (by simp [spec_EqualRegex.l0])
     | succ k2 =>
      have H := HA.out
      clear HA
      simp only [spec_EqualRegex.l0] at H
      by_cases c18 : ab < (l0_2.length : Int)
      ·rw [if_pos c18] at H
       have c18b0 : decide (ab < (l0_2.length : Int)) = true := decide_eq_true c18
       clear c18
       by_cases c19 : 0 ≤ ab
       ·rw [if_pos c19] at H
        have c19b0 : decide (0 ≤ ab) = true := decide_eq_true c19
        clear c19
        by_cases c20 : ab < (l1_2.length : Int)
        ·rw [if_pos c20] at H
         have c20b0 : decide (ab < (l1_2.length : Int)) = true := decide_eq_true c20
         clear c20
         replace H := Option.bind_eq_some_iff.mp H
         obtain ⟨bw, bA, H⟩ := H
         have A21 := am_ bA
         clear bA
         by_cases c22 : bw = true
         ·subst c22
          have H1 : (spec_EqualRegex.l0 k2 (wrap64 (ab + 1)) a0_0 a0_1 l0_2 a1_0 a1_1 l1_2) = some r := by rw [if_pos rfl] at H; exact H
          clear H
          have H := H1
          clear H1
          have H' := am_ H
          clear H
          have cb := ax.out
          have cc := ay.out
          have bB := ck_ (v := (.int .i64 a0_0)) aa 0 rfl
          have bC := ck_ (v := (.string a0_1)) aa 1 rfl
          have bD := ck_ (v := (.slice A0_2 l0_2.length c0_2)) aa 2 rfl
          have bE := blk_frozen aa.out 0
          have bF := blk_frozen aa.out 1
          have bG := blk_frozen aa.out 2
          try go_wp2
          replace aa := am_ (blk_drew aa.out)
          replace ad := am_ (blk_drew ad.out)
          replace HB := am_ (below_drew1 HB.out)
          have p111 : 0 ≤ (ab : Int) := of_decide_eq_true ah_
          have q111 : ab < (l0_2.length : Int) := of_decide_eq_true ah_
          obtain ⟨al, A111_2, c111_2, e111, ae, af, ag, hl111_2, hi111_2⟩ := at_T29 bx.out ab p111 q111
          have am := ag
          have an := af
          have ao := ae
          cases e111
          replace ae := (HB.out.cell (World.block_lt_of_cell? w _ ae)).trans ae
          replace af := (HB.out.cell (World.block_lt_of_cell? w _ af)).trans af
          replace ag := (HB.out.cell (World.block_lt_of_cell? w _ ag)).trans ag
          have aC := am_ hi111_2
          have aI := am_ hl111_2
          clear hi111_2 hl111_2
          replace p111 := eq_true p111
          replace q111 := eq_true q111
          have p112 : 0 ≤ (ab : Int) := of_decide_eq_true ah_
          have q112 : ab < (l1_2.length : Int) := of_decide_eq_true ah_
          obtain ⟨ap, A112_2, c112_2, e112, ah, ai, aj, hl112_2, hi112_2⟩ := at_T29 bz.out ab p112 q112
          have aq := aj
          have ar := ai
          have au := ah
          cases e112
          replace ah := (HB.out.cell (World.block_lt_of_cell? w _ ah)).trans ah
          replace ai := (HB.out.cell (World.block_lt_of_cell? w _ ai)).trans ai
          replace aj := (HB.out.cell (World.block_lt_of_cell? w _ aj)).trans aj
          have aD := am_ hi112_2
          have aJ := am_ hl112_2
          clear hi112_2 hl112_2
          replace p112 := eq_true p112
          replace q112 := eq_true q112
          refine start_ (n := 12) (S := fun w' => w'.cell? ⟨av, 0, none⟩ = some (.int .i64 a0_0) ∧ w'.cell? ⟨av, 1, none⟩ = some (.string a0_1) ∧ w'.cell? ⟨av, 2, none⟩ = some (.slice (some al) l0_2.length c0_2) ∧ w'.cell? ⟨aw, 0, none⟩ = some (.int .i64 a1_0) ∧ w'.cell? ⟨aw, 1, none⟩ = some (.string a1_1) ∧ w'.cell? ⟨aw, 2, none⟩ = some (.slice (some ap) l1_2.length c1_2) ∧ w'.cell? (al.add ((ab).toNat * 3)) = some (.int .i64 ((rd_T29 l0_2 ab).f0)) ∧ w'.cell? ⟨(al.add ((ab).toNat * 3)).block, (al.add ((ab).toNat * 3)).off + 1, none⟩ = some (.string ((rd_T29 l0_2 ab).f1)) ∧ w'.cell? ⟨(al.add ((ab).toNat * 3)).block, (al.add ((ab).toNat * 3)).off + 2, none⟩ = some (.slice A111_2 ((rd_T29 l0_2 ab).f2).length c111_2) ∧ w'.cell? (ap.add ((ab).toNat * 3)) = some (.int .i64 ((rd_T29 l1_2 ab).f0)) ∧ w'.cell? ⟨(ap.add ((ab).toNat * 3)).block, (ap.add ((ab).toNat * 3)).off + 1, none⟩ = some (.string ((rd_T29 l1_2 ab).f1)) ∧ w'.cell? ⟨(ap.add ((ab).toNat * 3)).block, (ap.add ((ab).toNat * 3)).off + 2, none⟩ = some (.slice A112_2 ((rd_T29 l1_2 ab).f2).length c112_2)) (ds := []) (bl 12 0) (by kernel_rfl) rfl rfl ⟨(blk_cell aa.out 0).trans rfl, (blk_cell aa.out 1).trans rfl, (blk_cell aa.out 2).trans rfl, (blk_cell ad.out 0).trans rfl, (blk_cell ad.out 1).trans rfl, (blk_cell ad.out 2).trans rfl, ((HB.out.cell (World.block_lt_of_cell? w _ ao)).trans ao), ((HB.out.cell (World.block_lt_of_cell? w _ an)).trans an), ((HB.out.cell (World.block_lt_of_cell? w _ am)).trans am), ((HB.out.cell (World.block_lt_of_cell? w _ au)).trans au), ((HB.out.cell (World.block_lt_of_cell? w _ ar)).trans ar), ((HB.out.cell (World.block_lt_of_cell? w _ aq)).trans aq)⟩ (fun hHeld => ?_); refine with_tabW spec_EqualRegex.tab6 spec_EqualRegex.bits6 (fun HT_ HW_ => ?_)
          generalize wr.drew = w25 at aa ad HB aC aD ae af ag ah ai aj hHeld ⊢
          refine pu_ 0 34 (bl 12 1) HT_ ?_
          refine pu_ 2 36 (bl 12 5) HT_ ?_
          refine pu_ 5 39 (bl 12 37) HT_ ?_
          refine pu_ 7 41 (bl 12 165) HT_ ?_
          refine tk_ 1 35 (bl 12 167) HT_ HW_ hHeld ?_
          refine pu_ 3 37 (bl 12 175) HT_ ?_
          refine tk_ 4 38 (bl 12 191) HT_ HW_ hHeld ?_
          refine tk_ 6 40 (bl 12 255) HT_ HW_ hHeld ?_
          refine pu_ 8 42 (bl 12 511) HT_ ?_
          refine tk_ 9 43 (bl 12 1023) HT_ HW_ hHeld ?_
          refine on_ 10 (some 44) (bl 12 2047) HT_ (fun K hK => ?_)
          refine gO_ Try.func13 #[.agg #[.int .i64 ((rd_T29 l0_2 ab).f0), .string ((rd_T29 l0_2 ab).f1), .slice A111_2 ((rd_T29 l0_2 ab).f2).length c111_2], .agg #[.int .i64 ((rd_T29 l1_2 ab).f0), .string ((rd_T29 l1_2 ab).f1), .slice A112_2 ((rd_T29 l1_2 ab).f2).length c112_2]] ?_
          with_reducible refine (ih k2 (by have := HJ2.out; have := HK2.out; omega) ((rd_T29 l0_2 ab).f0) ((rd_T29 l0_2 ab).f1) _ _ ((rd_T29 l0_2 ab).f2) ((rd_T29 l1_2 ab).f0) ((rd_T29 l1_2 ab).f1) _ _ ((rd_T29 l1_2 ab).f2) true _ ?side1 ?side2 ?side3 ?side4 A21.out).mono ?_
          (case side1 => exact rc_ (Kd.C_below aC.out HB.out))
          (case side2 => exact aI.out)
          (case side3 => exact rc_ (Kd.C_below aD.out HB.out))
          (case side4 => exact aJ.out)
          rintro e w26 ⟨rfl, hb⟩
          refine ⟨_, rfl, ?_⟩
          replace aa := am_ (blk_below (rb_ aa.out) hb)
          replace ad := am_ (blk_below (rb_ ad.out) hb)
          replace HB := am_ (below_step (b2_ HB.out ak.out aB.out) hb)
          (try clear hb)
          (try clear hb2)
          (try clear hk)
          (try clear hi)
          refine hK.out _ _ ⟨(blk_cell aa.out 0).trans rfl, (blk_cell aa.out 1).trans rfl, (blk_cell aa.out 2).trans rfl, (blk_cell ad.out 0).trans rfl, (blk_cell ad.out 1).trans rfl, (blk_cell ad.out 2).trans rfl, ((HB.out.cell (World.block_lt_of_cell? w _ ao)).trans ao), ((HB.out.cell (World.block_lt_of_cell? w _ an)).trans an), ((HB.out.cell (World.block_lt_of_cell? w _ am)).trans am), ((HB.out.cell (World.block_lt_of_cell? w _ au)).trans au), ((HB.out.cell (World.block_lt_of_cell? w _ ar)).trans ar), ((HB.out.cell (World.block_lt_of_cell? w _ aq)).trans aq)⟩ (fun hHeld => ?_)
          clear hK K
          refine norm_ (a' := ?_) ?_ ?_
          rotate_left
          ·show Act.put _ (some 44) _ = _
           simp only [pn_, sz_, ss_, i64_w, i32_w]
           rfl
          refine pu_ 11 45 (bl 12 4095) HT_ ?_
          refine done_ (done_of HT_.out (by kernel_rfl)) ?_
          try go_wp2
          go_roundg k2
          case measure => have := HJ2.out; have := HK2.out; omega
          case rel => exact ⟨(wrap64 (ab + 1)), (by first | rfl | (simp; done) | (simp [*]; done)), H', ⟨by have := HJ2.out; have := HK2.out; omega⟩, ⟨by refine rb_ ?_; exact aa.out⟩, ⟨by refine rb_ ?_; exact ad.out⟩, ⟨by exact zp2_0_ HB.out ak.out aB.out⟩⟩
         ·replace c22 := Bool.eq_false_iff.mpr c22
          subst c22
          have H1 : (some false) = some r := by rw [if_neg (show ¬ (false = true) by decide)] at H; exact H
          clear H
          have H := H1
          clear H1
          obtain rfl := Option.some.inj H
          simp only [Option.some.injEq, Prod.mk.injEq] at H
          obtain ⟨rfl⟩ := H
          have cd := ax.out
          have ce := ay.out
          have bH := ck_ (v := (.int .i64 a0_0)) aa 0 rfl
          have bI := ck_ (v := (.string a0_1)) aa 1 rfl
          have bJ := ck_ (v := (.slice A0_2 l0_2.length c0_2)) aa 2 rfl
          have bK := blk_frozen aa.out 0
          have bL := blk_frozen aa.out 1
          have bM := blk_frozen aa.out 2
          try go_wp2
          replace aa := am_ (blk_drew aa.out)
          replace ad := am_ (blk_drew ad.out)
          replace HB := am_ (below_drew1 HB.out)
          have p111 : 0 ≤ (ab : Int) := of_decide_eq_true ah_
          have q111 : ab < (l0_2.length : Int) := of_decide_eq_true ah_
          obtain ⟨al, A111_2, c111_2, e111, ae, af, ag, hl111_2, hi111_2⟩ := at_T29 bx.out ab p111 q111
          have am := ag
          have an := af
          have ao := ae
          cases e111
          replace ae := (HB.out.cell (World.block_lt_of_cell? w _ ae)).trans ae
          replace af := (HB.out.cell (World.block_lt_of_cell? w _ af)).trans af
          replace ag := (HB.out.cell (World.block_lt_of_cell? w _ ag)).trans ag
          have aC := am_ hi111_2
          have aI := am_ hl111_2
          clear hi111_2 hl111_2
          replace p111 := eq_true p111
          replace q111 := eq_true q111
          have p112 : 0 ≤ (ab : Int) := of_decide_eq_true ah_
          have q112 : ab < (l1_2.length : Int) := of_decide_eq_true ah_
          obtain ⟨ap, A112_2, c112_2, e112, ah, ai, aj, hl112_2, hi112_2⟩ := at_T29 bz.out ab p112 q112
          have aq := aj
          have ar := ai
          have au := ah
          cases e112
          replace ah := (HB.out.cell (World.block_lt_of_cell? w _ ah)).trans ah
          replace ai := (HB.out.cell (World.block_lt_of_cell? w _ ai)).trans ai
          replace aj := (HB.out.cell (World.block_lt_of_cell? w _ aj)).trans aj
          have aD := am_ hi112_2
          have aJ := am_ hl112_2
          clear hi112_2 hl112_2
          replace p112 := eq_true p112
          replace q112 := eq_true q112
          refine start_ (n := 12) (S := fun w' => w'.cell? ⟨av, 0, none⟩ = some (.int .i64 a0_0) ∧ w'.cell? ⟨av, 1, none⟩ = some (.string a0_1) ∧ w'.cell? ⟨av, 2, none⟩ = some (.slice (some al) l0_2.length c0_2) ∧ w'.cell? ⟨aw, 0, none⟩ = some (.int .i64 a1_0) ∧ w'.cell? ⟨aw, 1, none⟩ = some (.string a1_1) ∧ w'.cell? ⟨aw, 2, none⟩ = some (.slice (some ap) l1_2.length c1_2) ∧ w'.cell? (al.add ((ab).toNat * 3)) = some (.int .i64 ((rd_T29 l0_2 ab).f0)) ∧ w'.cell? ⟨(al.add ((ab).toNat * 3)).block, (al.add ((ab).toNat * 3)).off + 1, none⟩ = some (.string ((rd_T29 l0_2 ab).f1)) ∧ w'.cell? ⟨(al.add ((ab).toNat * 3)).block, (al.add ((ab).toNat * 3)).off + 2, none⟩ = some (.slice A111_2 ((rd_T29 l0_2 ab).f2).length c111_2) ∧ w'.cell? (ap.add ((ab).toNat * 3)) = some (.int .i64 ((rd_T29 l1_2 ab).f0)) ∧ w'.cell? ⟨(ap.add ((ab).toNat * 3)).block, (ap.add ((ab).toNat * 3)).off + 1, none⟩ = some (.string ((rd_T29 l1_2 ab).f1)) ∧ w'.cell? ⟨(ap.add ((ab).toNat * 3)).block, (ap.add ((ab).toNat * 3)).off + 2, none⟩ = some (.slice A112_2 ((rd_T29 l1_2 ab).f2).length c112_2)) (ds := []) (bl 12 0) (by kernel_rfl) rfl rfl ⟨(blk_cell aa.out 0).trans rfl, (blk_cell aa.out 1).trans rfl, (blk_cell aa.out 2).trans rfl, (blk_cell ad.out 0).trans rfl, (blk_cell ad.out 1).trans rfl, (blk_cell ad.out 2).trans rfl, ((HB.out.cell (World.block_lt_of_cell? w _ ao)).trans ao), ((HB.out.cell (World.block_lt_of_cell? w _ an)).trans an), ((HB.out.cell (World.block_lt_of_cell? w _ am)).trans am), ((HB.out.cell (World.block_lt_of_cell? w _ au)).trans au), ((HB.out.cell (World.block_lt_of_cell? w _ ar)).trans ar), ((HB.out.cell (World.block_lt_of_cell? w _ aq)).trans aq)⟩ (fun hHeld => ?_); refine with_tabW spec_EqualRegex.tab6 spec_EqualRegex.bits6 (fun HT_ HW_ => ?_)
          generalize wr.drew = w29 at aa ad HB aC aD ae af ag ah ai aj hHeld ⊢
          refine pu_ 0 34 (bl 12 1) HT_ ?_
          refine pu_ 2 36 (bl 12 5) HT_ ?_
          refine pu_ 5 39 (bl 12 37) HT_ ?_
          refine pu_ 7 41 (bl 12 165) HT_ ?_
          refine tk_ 1 35 (bl 12 167) HT_ HW_ hHeld ?_
          refine pu_ 3 37 (bl 12 175) HT_ ?_
          refine tk_ 4 38 (bl 12 191) HT_ HW_ hHeld ?_
          refine tk_ 6 40 (bl 12 255) HT_ HW_ hHeld ?_
          refine pu_ 8 42 (bl 12 511) HT_ ?_
          refine tk_ 9 43 (bl 12 1023) HT_ HW_ hHeld ?_
          refine on_ 10 (some 44) (bl 12 2047) HT_ (fun K hK => ?_)
          refine gO_ Try.func13 #[.agg #[.int .i64 ((rd_T29 l0_2 ab).f0), .string ((rd_T29 l0_2 ab).f1), .slice A111_2 ((rd_T29 l0_2 ab).f2).length c111_2], .agg #[.int .i64 ((rd_T29 l1_2 ab).f0), .string ((rd_T29 l1_2 ab).f1), .slice A112_2 ((rd_T29 l1_2 ab).f2).length c112_2]] ?_
          with_reducible refine (ih k2 (by have := HJ2.out; have := HK2.out; omega) ((rd_T29 l0_2 ab).f0) ((rd_T29 l0_2 ab).f1) _ _ ((rd_T29 l0_2 ab).f2) ((rd_T29 l1_2 ab).f0) ((rd_T29 l1_2 ab).f1) _ _ ((rd_T29 l1_2 ab).f2) false _ ?side1 ?side2 ?side3 ?side4 A21.out).mono ?_
          (case side1 => exact rc_ (Kd.C_below aC.out HB.out))
          (case side2 => exact aI.out)
          (case side3 => exact rc_ (Kd.C_below aD.out HB.out))
          (case side4 => exact aJ.out)
          rintro e w30 ⟨rfl, hb⟩
          refine ⟨_, rfl, ?_⟩
          replace aa := am_ (blk_below (rb_ aa.out) hb)
          replace ad := am_ (blk_below (rb_ ad.out) hb)
          replace HB := am_ (below_step (b2_ HB.out ak.out aB.out) hb)
          (try clear hb)
          (try clear hb2)
          (try clear hk)
          (try clear hi)
          refine hK.out _ _ ⟨(blk_cell aa.out 0).trans rfl, (blk_cell aa.out 1).trans rfl, (blk_cell aa.out 2).trans rfl, (blk_cell ad.out 0).trans rfl, (blk_cell ad.out 1).trans rfl, (blk_cell ad.out 2).trans rfl, ((HB.out.cell (World.block_lt_of_cell? w _ ao)).trans ao), ((HB.out.cell (World.block_lt_of_cell? w _ an)).trans an), ((HB.out.cell (World.block_lt_of_cell? w _ am)).trans am), ((HB.out.cell (World.block_lt_of_cell? w _ au)).trans au), ((HB.out.cell (World.block_lt_of_cell? w _ ar)).trans ar), ((HB.out.cell (World.block_lt_of_cell? w _ aq)).trans aq)⟩ (fun hHeld => ?_)
          clear hK K
          refine norm_ (a' := ?_) ?_ ?_
          rotate_left
          ·show Act.put _ (some 44) _ = _
           simp only [pn_, sz_, ss_, i64_w, i32_w]
           rfl
          refine pu_ 11 45 (bl 12 4095) HT_ ?_
          refine done_ (done_of HT_.out (by kernel_rfl)) ?_
          try go_wp2
          go_ret
          exact ⟨by first | rfl | (simp [errW_none, errW_some] <;> rfl) | (simp [*, errW_none, errW_some] <;> rfl), by exact zp2_0_ HB.out ak.out aB.out⟩
        ·rw [if_neg c20] at H
         exact absurd H (by simp)
       ·rw [if_neg c19] at H
        exact absurd H (by simp)
      ·rw [if_neg c18] at H
       have c18b0 : decide (ab < (l0_2.length : Int)) = false := decide_eq_false c18
       clear c18
       obtain rfl := Option.some.inj H
       simp only [Option.some.injEq, Prod.mk.injEq] at H
       obtain ⟨rfl⟩ := H
       have cf := ax.out
       have cg := ay.out
       have bN := ck_ (v := (.int .i64 a0_0)) aa 0 rfl
       have bO := ck_ (v := (.string a0_1)) aa 1 rfl
       have bP := ck_ (v := (.slice A0_2 l0_2.length c0_2)) aa 2 rfl
       have bQ := blk_frozen aa.out 0
       have bR := blk_frozen aa.out 1
       have bS := blk_frozen aa.out 2
       go_wp2
       go_ret
       exact ⟨by first | rfl | (simp [errW_none, errW_some] <;> rfl) | (simp [*, errW_none, errW_some] <;> rfl), by exact zp2_0_ HB.out ak.out aB.out⟩
end Go.Proofs.Ytldgkgdgcfllmaa.P
end
