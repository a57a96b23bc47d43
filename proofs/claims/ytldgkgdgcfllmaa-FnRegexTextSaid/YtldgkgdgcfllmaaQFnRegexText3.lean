/- Texts of the proof of FnRegexText, put together. No condition. -/
import Derived.RowKit
import Derived.Lib.Walk
import Derived.Test.YtldgkgdgcfllmaaQFnRegexText2
import Derived.Test.YtldgkgdgcfllmaaQFnRegexText1
import Derived.Laws.StructEq
import Derived.Test.YtldgkgdgcfllmaaProg
import Derived.Below
import Derived.Deep.Draws
import Derived.Deep.AppendLies
import Derived.Maps.AppendAt
import Derived.OwnWalk
import Derived.Laws.BytesArg
import Derived.Laws.MakeOwn
import Derived.Laws.OwnMore
import Derived.Deep.OwnRows
import Derived.Tactics
import Derived.Lib.ConvBytes
import Derived.Laws.Slices
import Derived.WalkKit
import Derived.KernelRfl
import Derived.RowKit3
import Derived.Deep.LoopGhost
import Derived.Deep.QuietTactic
import Derived.BigQuiet
import Derived.WideLaws
import Derived.Deep.DeepCutAuto
import Derived.Deep.CutBlock
import Derived.Deep.RegionHeld3
import Derived.Laws.Rows
import Derived.Lib.AppendStr
import Derived.ArgAppend
import Derived.Laws.IdiomCopy
import Derived.OrdersHeld
import Derived.Laws.BitsLemmas
import Derived.Deep.Slices
import Derived.Lib.SmallJoins
import Derived.Shelf.Abstract
section
namespace Go.Proofs.Ytldgkgdgcfllmaa
open Go.RowKit Go.Proofs.Ytldgkgdgcfllmaa.P Go.Proofs.YtldgkgdgcfllmaaW.PrintWords Go.Proofs.YtldgkgdgcfllmaaW.PrintLast Go.Proofs.YtldgkgdgcfllmaaW.PrintMore
theorem pu_ {P : Program} {ops : Array Oper} {Q : Exit → Act → World → Prop} {md : Region.Mode} {S : World → Prop} {ds : List Nat} {T : Bool × List (List Nat × List Nat)} {oi : Oper} {v : Value} {fuel : Nat} {l : Array Bool} {a a' : Act} {w : World} (i N : Nat) (l' : Array Bool) (hT : Aside0 (rtab md ops = T)) (h : wpAnyLast P md ops Q S ds fuel l' a' w)
    (hi : ops[i]? = some oi := by rfl) (hN : oi.dst = some N := by rfl) (hc : anyT T l.toList l'.toList i = true := by kernel_rfl) (hQ : ∀ c a w, Q (.panic c) (a.put oi.dst v) w → Q (.panic c) a w := by exact fun _ _ _ h => h)
    (hy : Yields P ops oi v a := by exact Or.inl ⟨by rfl, by intro w'; go_simp; with_reducible rfl⟩) (ha : a.put (some N) v = a' := by simp only [pn_, sz_, ss_, i64_w, i32_w]; rfl) : wpAnyLast P md ops Q S ds (fuel + 1) l a w := pure_ l' hi hN (any_of hT.out hc) hQ hy ha h
theorem tk_ {P : Program} {ops : Array Oper} {Q : Exit → Act → World → Prop} {md : Region.Mode} {S : World → Prop} {ds : List Nat} {T : Bool × List (List Nat × List Nat)} {B : List Nat} {oi : Oper} {v : Value} {fuel : Nat} {l : Array Bool} {a a' : Act} {w : World} (i N : Nat) (l' : Array Bool) (hT : Aside0 (rtab md ops = T)) (hB : Aside0 (waitsOk T.2 B = true)) (hS : S w) (h : wpAnyLast P md ops Q S ds fuel l' a' w)
    (hi : ops[i]? = some oi := by rfl) (hN : oi.dst = some N := by rfl) (hc : takeW T B ds l.toList l'.toList i = true := by kernel_rfl) (hQ : ∀ c a w, Q (.panic c) (a.put oi.dst v) w → Q (.panic c) a w := by exact fun _ _ _ h => h)
    (hy : YieldsIf P ops S oi v a := by exact Or.inl ⟨by rfl, by intro w' h_; (repeat (obtain ⟨_, h_⟩ := h_)); go_simp; with_reducible rfl⟩) (ha : a.put (some N) v = a' := by simp only [pn_, sz_, ss_, i64_w, i32_w]; rfl) : wpAnyLast P md ops Q S ds (fuel + 1) l a w := take_ l' hi hN (take_ofW hT.out hB.out hc) hQ hy hS ha h
theorem ph_ {P : Program} {ops : Array Oper} {Q : Exit → Act → World → Prop} {md : Region.Mode} {S : World → Prop} {ds : List Nat} {T : Bool × List (List Nat × List Nat)} {oi : Oper} {v : Value} {fuel : Nat} {l : Array Bool} {a a' : Act} {w : World} (i N : Nat) (l' : Array Bool) (hT : Aside0 (rtab md ops = T)) (h : wpAnyLast P md ops Q S ds fuel l' a' w)
    (hi : ops[i]? = some oi := by rfl) (hN : oi.dst = some N := by rfl) (hc : anyT T l.toList l'.toList i = true := by kernel_rfl) (hQ : ∀ c a w, Q (.panic c) (a.put oi.dst v) w → Q (.panic c) a w := by exact fun _ _ _ h => h)
    (hy : Yields P ops oi v a := by exact Or.inl ⟨by rfl, by intro w'; go_simp; with_reducible rfl⟩) (ha : a.put (some N) v = a' := by simp only [Act.put, List.setIfInBounds_toArray, List.set_cons_zero, List.set_cons_succ, i64_w, i32_w]; rfl) : wpAnyLast P md ops Q S ds (fuel + 1) l a w := pure_ l' hi hN (any_of hT.out hc) hQ hy ha h
theorem th_ {P : Program} {ops : Array Oper} {Q : Exit → Act → World → Prop} {md : Region.Mode} {S : World → Prop} {ds : List Nat} {T : Bool × List (List Nat × List Nat)} {B : List Nat} {oi : Oper} {v : Value} {fuel : Nat} {l : Array Bool} {a a' : Act} {w : World} (i N : Nat) (l' : Array Bool) (hT : Aside0 (rtab md ops = T)) (hB : Aside0 (waitsOk T.2 B = true)) (hS : S w) (h : wpAnyLast P md ops Q S ds fuel l' a' w)
    (hi : ops[i]? = some oi := by rfl) (hN : oi.dst = some N := by rfl) (hc : takeW T B ds l.toList l'.toList i = true := by kernel_rfl) (hQ : ∀ c a w, Q (.panic c) (a.put oi.dst v) w → Q (.panic c) a w := by exact fun _ _ _ h => h)
    (hy : YieldsIf P ops S oi v a := by exact Or.inl ⟨by rfl, by intro w' h_; (repeat (obtain ⟨_, h_⟩ := h_)); go_simp; with_reducible rfl⟩) (ha : a.put (some N) v = a' := by simp only [Act.put, List.setIfInBounds_toArray, List.set_cons_zero, List.set_cons_succ, i64_w, i32_w]; rfl) : wpAnyLast P md ops Q S ds (fuel + 1) l a w := take_ l' hi hN (take_ofW hT.out hB.out hc) hQ hy hS ha h
theorem rr_ {p q : Prop} (h : p) (c : p → q := by intro h_; (with_reducible repeat (first | apply Kd.R_alloc | apply Kd.R_drewN | apply Kd.R_drew)); exact h_) : q := c h
theorem rb_ {p q : Prop} (h : p) (c : p → q := by intro h_; (with_reducible repeat (first | refine blk_drewN ?_ _ | refine blk_drew ?_ | refine blk_alloc ?_ _)); exact h_) : q := c h
theorem rc_ {p q : Prop} (h : p) (c : p → q := by intro h_; repeat (first | exact h_ | (with_reducible refine Kd.C_alloc ?_ _) | (with_reducible refine Kd.C_drewN ?_ _) | (with_reducible refine Kd.C_drew ?_))) : q := c h
theorem am_ {p : Prop} (h : p) : Aside0 p := ⟨h⟩
theorem ah_ {p : Prop} (h : p := by first | (with_reducible assumption) | assumption) : p := h
theorem b0_ {p q : Prop} (h : p) (c : p → q := by intro h_; repeat (first | (with_reducible first | exact h_ | apply below_alloc | apply pw_below_drewN | apply below_drew1) | exact h_)) : q := c h
theorem b1_ {p q g1 : Prop} (h : p) (h1 : g1) (c : p → g1 → q := by intro h_ h1_; repeat (first | (with_reducible first | exact h_ | apply below_alloc | apply pw_below_drewN | apply below_drew1 | refine below_set ?_ h1_) | exact h_)) : q := c h h1
theorem b2_ {p q g1 g2 : Prop} (h : p) (h1 : g1) (h2 : g2) (c : p → g1 → g2 → q := by intro h_ h1_ h2_; repeat (first | (with_reducible first | exact h_ | apply below_alloc | apply pw_below_drewN | apply below_drew1 | refine below_set ?_ h1_ | refine below_set ?_ h2_) | exact h_)) : q := c h h1 h2
theorem b3_ {p q g1 g2 g3 : Prop} (h : p) (h1 : g1) (h2 : g2) (h3 : g3) (c : p → g1 → g2 → g3 → q := by intro h_ h1_ h2_ h3_; repeat (first | (with_reducible first | exact h_ | apply below_alloc | apply pw_below_drewN | apply below_drew1 | refine below_set ?_ h1_ | refine below_set ?_ h2_ | refine below_set ?_ h3_) | exact h_)) : q := c h h1 h2 h3
theorem b4_ {p q g1 g2 g3 g4 : Prop} (h : p) (h1 : g1) (h2 : g2) (h3 : g3) (h4 : g4) (c : p → g1 → g2 → g3 → g4 → q := by intro h_ h1_ h2_ h3_ h4_; repeat (first | (with_reducible first | exact h_ | apply below_alloc | apply pw_below_drewN | apply below_drew1 | refine below_set ?_ h1_ | refine below_set ?_ h2_ | refine below_set ?_ h3_ | refine below_set ?_ h4_) | exact h_)) : q := c h h1 h2 h3 h4
theorem k0_ {p q : Prop} (h : p) (c : p → q := by intro h_; repeat (first | (with_reducible first | exact h_ | apply KeepBut.set_ | apply keep_drewN | apply keep_drew | apply keep_alloc) | exact h_)) : q := c h
theorem k1_ {p q g1 : Prop} (h : p) (h1 : g1) (c : p → g1 → q := by intro h_ h1_; repeat (first | (with_reducible first | exact h_ | apply KeepBut.set_ | apply keep_drewN | apply keep_drew | apply keep_alloc | refine keep_far ?_ h1_ _) | exact h_)) : q := c h h1
theorem k2_ {p q g1 g2 : Prop} (h : p) (h1 : g1) (h2 : g2) (c : p → g1 → g2 → q := by intro h_ h1_ h2_; repeat (first | (with_reducible first | exact h_ | apply KeepBut.set_ | apply keep_drewN | apply keep_drew | apply keep_alloc | refine keep_far ?_ h1_ _ | refine keep_far ?_ h2_ _) | exact h_)) : q := c h h1 h2
theorem rn_ {p q : Prop} (h : p) (c : p → q := by intro h_; (with_reducible repeat (first | apply Kd.N_alloc | apply Kd.N_drewN | apply Kd.N_drew)); exact h_) : q := c h
theorem ck_ {w : World} {g : Nat} {cs : Array Value} {t : TypeId} (h : Aside0 (w.heap[g]? = some (.cells cs t (0, 0)))) (i : Nat) {v : Value} (e : cs[i]? = some v) : w.cell? ⟨g, i, none⟩ = some v := (blk_cell h.out i).trans e
theorem sz_ {n : Nat} {w w' : World} (h : Aside0 (n ≤ w.heap.size)) {B : Nat} (hb : Below B w w') : Aside0 (n ≤ w'.heap.size) := ⟨Nat.le_trans h.out hb.size⟩
theorem nm_ {P : Program} {ops : Array Oper} {Q : Exit → Act → World → Prop} {md : Region.Mode} {S : World → Prop} {ds : List Nat} {fuel : Nat} {l : Array Bool} {a a' : Act} {w : World} {v : Value} (N : Nat) (h : wpAnyLast P md ops Q S ds fuel l a' w) (ha : a.put (some N) v = a' := by simp only [Act.put, List.setIfInBounds_toArray, List.set_cons_zero, List.set_cons_succ, i64_w, i32_w]; rfl) : wpAnyLast P md ops Q S ds fuel l (a.put (some N) v) w := by
  subst ha
  exact h
theorem on_ {P : Program} {ops : Array Oper} {Q : Exit → Act → World → Prop} {md : Region.Mode} {S : World → Prop} {ds : List Nat} {T : Bool × List (List Nat × List Nat)} {oi : Oper} {fuel : Nat} {l : Array Bool} {a : Act} {w : World} (i : Nat) (N : Option Nat) (l' : Array Bool) (hT : Aside0 (rtab md ops = T))
    (h : ∀ K : Act → World → Prop, Shut (∀ a' w', S w' → (S w' → wpAnyLast P md ops Q S ds fuel l' a' w') → K a' w') → if Region.wanted oi (yielded ops a.tmps) = true then Oper.wp P oi a w K Q else K (a.put N undef) w)
    (hi : ops[i]? = some oi := by rfl) (hN : oi.dst = N := by rfl) (hc : (readyT T.2 l.toList == [i] && l.toList.set i true == l'.toList) = true := by kernel_rfl) (hd : i ∉ ds := by decide) : wpAnyLast P md ops Q S ds (fuel + 1) l a w := one_ l' hi hN (one_of hT.out hc) hd h
section
variable {P : Program} {ops : Array Oper} {Q : Exit → Act → World → Prop}
theorem gL_ {rest : List Oper} {oi : Oper} {a : Act} {w : World} (N : Option Tmp) {f : FuncId} {fn : Func} {as_ : Array Operand} {ts : Array TypeId} (hf : P.funcs[f]? = some fn) (args : Array Value)
    (h : Calls P f args w fun e w' => ∃ v, e = .returned v ∧ wpList P ops Q rest (a.put N v) w')
    (hd : oi.dst = N := by rfl) (hg : oi.guard = none := by rfl) (hname : (fn.name == "runtime.NumGoroutine") = false := by kernel_rfl) (hb : fn.body.isSome = true := by rfl)
    (hop : oi.op = .call { callee := .value (.func f), args := as_, argTypes := ts } := by rfl) (hargs : as_.map a.eval = args := by (try simp only [List.map_toArray, List.map_cons, List.map_nil]); first | done | rfl | (simp only [List.length_drop, List.length_take]; rfl)) : wpList P ops Q (oi :: rest) a w :=
  goesL_ N hd hg hf hname hb args hop hargs h
theorem gO_ {oi : Oper} {N : Option Tmp} {a : Act} {w : World} {K : Act → World → Prop} {f : FuncId} {fn : Func} {as_ : Array Operand} {ts : Array TypeId} (hf : P.funcs[f]? = some fn) (args : Array Value)
    (h : Calls P f args w fun e w' => ∃ v, e = .returned v ∧ K (a.put N v) w')
    (hname : (fn.name == "runtime.NumGoroutine") = false := by kernel_rfl) (hb : fn.body.isSome = true := by rfl) (hw : Region.wanted oi (yielded ops a.tmps) = true := by rfl) (hN : oi.dst = N := by rfl) (hop : oi.op = .call { callee := .value (.func f), args := as_, argTypes := ts } := by rfl) (hargs : as_.map a.eval = args := by (try simp only [List.map_toArray, List.map_cons, List.map_nil]); first | done | rfl | (simp only [List.length_drop, List.length_take]; rfl)) : if Region.wanted oi (yielded ops a.tmps) = true then Oper.wp P oi a w K Q else K (a.put N undef) w :=
  goes_ hf hname hb args hw hN hop hargs h
end
end Go.Proofs.Ytldgkgdgcfllmaa
end
section
namespace Go.Proofs.YtldgkgdgcfllmaaW.PrintLast
section
variable {P : Program} {ops : Array Oper} {Q : Exit → Act → World → Prop} {md : Region.Mode} {S : World → Prop} {ds : List Nat} {T : Bool × List (List Nat × List Nat)}
end
end Go.Proofs.YtldgkgdgcfllmaaW.PrintLast
end
section
namespace Go.Proofs.YtldgkgdgcfllmaaW.PrintWords
open Go.RowKit
namespace Kd
section
variable {α : Type} {d : Kd α} {W : World} {g n : Nat} {S ok : Nat → Prop} {A : Option Addr} {ad : Addr} {xs : List α}
end
end Kd
end Go.Proofs.YtldgkgdgcfllmaaW.PrintWords
end
section
namespace Go.Proofs.YtldgkgdgcfllmaaW.PrintWords
open Go.RowKit
section
variable {w w' u : World} {m B g : Nat} {o : Obj} {row : Option Nat} {S : Nat → Prop} {a : Addr} {v : Value}
end
namespace Kd
section
variable {α : Type} {d : Kd α} {e base n m : Nat} {ok : Nat → Prop} {w w' : World} {v : Value} {A : Option Addr} {xs : List α}
end
end Kd
end Go.Proofs.YtldgkgdgcfllmaaW.PrintWords
end
section
namespace Go.Proofs.YtldgkgdgcfllmaaW.PrintWords
open Go.RowKit
section
variable {P : Program} {d : Nat} {xs ys : Array Value} {f : Field} {fs : List Field} {a b : Value} {r s : Bool} {w : World}
end
end Go.Proofs.YtldgkgdgcfllmaaW.PrintWords
end
section
namespace Go.Proofs.YtldgkgdgcfllmaaW.PrintWords
theorem Reps.one {α : Type} {R : α → List Value → Prop} {ps : List α} {cs : List Value} {p : α} {v : Value} (hp : R p [v]) (h : Reps R 1 ps cs) : Reps R 1 (p :: ps) (v :: cs) := by
  refine ⟨by simp [h.1], fun j q hq => ?_⟩
  cases j with
  | zero =>
    simp only [List.getElem?_cons_zero, Option.some.injEq] at hq
    subst hq
    simpa using hp
  | succ j =>
    simp only [List.getElem?_cons_succ] at hq
    have h1 := h.2 j q hq
    simpa [Nat.mul_one] using h1
theorem Reps.front {α : Type} {R : α → List Value → Prop} {size : Nat} {ps : List α} {cs c all : List Value} {p : α} (hp : R p c) (hc : c.length = size) (h : Reps R size ps cs) (ha : c ++ cs = all) : Reps R size (p :: ps) all := by
  subst ha
  refine ⟨by rw [List.length_append, hc, h.1, List.length_cons, Nat.succ_mul, Nat.add_comm], fun j q hq => ?_⟩
  cases j with
  | zero =>
    simp only [List.getElem?_cons_zero, Option.some.injEq] at hq
    subst hq
    rw [Nat.zero_mul, List.drop_zero, List.take_append_of_le_length (by omega), List.take_of_length_le (by omega)]
    exact hp
  | succ j =>
    simp only [List.getElem?_cons_succ] at hq
    have h1 := h.2 j q hq
    rw [Nat.succ_mul, List.drop_append, List.drop_of_length_le (by rw [hc]; exact Nat.le_add_left _ _), List.nil_append, hc, Nat.add_sub_cancel]
    exact h1
theorem Reps.c2 {α : Type} {R : α → List Value → Prop} {ps : List α} {cs : List Value} {p : α} {va vb : Value} (hp : R p [va, vb]) (h : Reps R 2 ps cs) : Reps R 2 (p :: ps) (va :: vb :: cs) := Reps.front hp rfl h rfl
theorem Reps.c3 {α : Type} {R : α → List Value → Prop} {ps : List α} {cs : List Value} {p : α} {va vb vc : Value} (hp : R p [va, vb, vc]) (h : Reps R 3 ps cs) : Reps R 3 (p :: ps) (va :: vb :: vc :: cs) := Reps.front hp rfl h rfl
theorem Reps.c4 {α : Type} {R : α → List Value → Prop} {ps : List α} {cs : List Value} {p : α} {va vb vc vd : Value} (hp : R p [va, vb, vc, vd]) (h : Reps R 4 ps cs) : Reps R 4 (p :: ps) (va :: vb :: vc :: vd :: cs) := Reps.front hp rfl h rfl
theorem Reps.c5 {α : Type} {R : α → List Value → Prop} {ps : List α} {cs : List Value} {p : α} {va vb vc vd ve : Value} (hp : R p [va, vb, vc, vd, ve]) (h : Reps R 5 ps cs) : Reps R 5 (p :: ps) (va :: vb :: vc :: vd :: ve :: cs) := Reps.front hp rfl h rfl
theorem Reps.c6 {α : Type} {R : α → List Value → Prop} {ps : List α} {cs : List Value} {p : α} {va vb vc vd ve vf : Value} (hp : R p [va, vb, vc, vd, ve, vf]) (h : Reps R 6 ps cs) : Reps R 6 (p :: ps) (va :: vb :: vc :: vd :: ve :: vf :: cs) := Reps.front hp rfl h rfl
theorem Reps.c7 {α : Type} {R : α → List Value → Prop} {ps : List α} {cs : List Value} {p : α} {va vb vc vd ve vf vg : Value} (hp : R p [va, vb, vc, vd, ve, vf, vg]) (h : Reps R 7 ps cs) : Reps R 7 (p :: ps) (va :: vb :: vc :: vd :: ve :: vf :: vg :: cs) := Reps.front hp rfl h rfl
theorem Reps.c8 {α : Type} {R : α → List Value → Prop} {ps : List α} {cs : List Value} {p : α} {va vb vc vd ve vf vg vh : Value} (hp : R p [va, vb, vc, vd, ve, vf, vg, vh]) (h : Reps R 8 ps cs) : Reps R 8 (p :: ps) (va :: vb :: vc :: vd :: ve :: vf :: vg :: vh :: cs) := Reps.front hp rfl h rfl
theorem Reps.c9 {α : Type} {R : α → List Value → Prop} {ps : List α} {cs : List Value} {p : α} {va vb vc vd ve vf vg vh vi : Value} (hp : R p [va, vb, vc, vd, ve, vf, vg, vh, vi]) (h : Reps R 9 ps cs) : Reps R 9 (p :: ps) (va :: vb :: vc :: vd :: ve :: vf :: vg :: vh :: vi :: cs) := Reps.front hp rfl h rfl
theorem Reps.c10 {α : Type} {R : α → List Value → Prop} {ps : List α} {cs : List Value} {p : α} {va vb vc vd ve vf vg vh vi vj : Value} (hp : R p [va, vb, vc, vd, ve, vf, vg, vh, vi, vj]) (h : Reps R 10 ps cs) : Reps R 10 (p :: ps) (va :: vb :: vc :: vd :: ve :: vf :: vg :: vh :: vi :: vj :: cs) := Reps.front hp rfl h rfl
end Go.Proofs.YtldgkgdgcfllmaaW.PrintWords
end
section
namespace Go.Proofs.YtldgkgdgcfllmaaW.PrintLast
section
variable {P : Program} {ops : Array Oper} {Q : Exit → Act → World → Prop} {md : Region.Mode} {T : Bool × List (List Nat × List Nat)} {B : List Nat} {O : List Nat} {b : Nat → Bool} {i j n : Nat}
end
end Go.Proofs.YtldgkgdgcfllmaaW.PrintLast
end
section
namespace Go.Proofs.YtldgkgdgcfllmaaW.PrintWords
open Go.RowKit
end Go.Proofs.YtldgkgdgcfllmaaW.PrintWords
namespace Go.Proofs.YtldgkgdgcfllmaaW.PrintLast
section
variable {ops : Array Oper} {a : Act} {o og : Oper} {g : Nat} {t : Tmp} {u : Bool}
end
end Go.Proofs.YtldgkgdgcfllmaaW.PrintLast
end
section
namespace Go.Proofs.YtldgkgdgcfllmaaW.PrintWords
open Go.RowKit
section
variable {P : Program} {ops : Array Oper} {rest : List Oper} {o : Oper} {a : Act} {Q : Exit → Act → World → Prop} {W : World}
theorem gate_guard (hw : Region.wanted o (yielded ops a.tmps) = true) (h : wpList P ops Q ({ o with guard := none } :: rest) a W) : wpList P ops Q (o :: rest) a W := by
  have h1 : Region.wanted { o with guard := none } (yielded ops a.tmps) = true := rfl
  unfold wpList at h ⊢
  rw [if_pos h1] at h
  rw [if_pos hw]
  exact h
end
end Go.Proofs.YtldgkgdgcfllmaaW.PrintWords
end
section
namespace Go.Proofs.Ytldgkgdgcfllmaa.P
open Go.RowKit Go.Proofs.YtldgkgdgcfllmaaW.PrintWords Go.Proofs.YtldgkgdgcfllmaaW.PrintLast Go.Proofs.YtldgkgdgcfllmaaW.PrintMore
attribute [local go_sem] max2_int min2_int max_two min_two max_three min_three max_four min_four
set_option linter.unusedVariables false
set_option linter.unusedSimpArgs false
def errW : Option Int → Value
  | none => .nilIface
  | some c => .iface 0 (.int .i64 c)
theorem errW_none : errW none = .nilIface := rfl
theorem errW_some (c : Int) : errW (some c) = .iface 0 (.int .i64 c) := rfl
theorem info29 : (Try.prog.info? 29).map (fun i => (i.zero, i.size, i.bytes)) = some (some (.agg #[(.int .i64 0), (.string ⟨#[]⟩), (.slice none 0 0)]), 3, 48) := by kernel_rfl
structure S24 where
  f0 : Int
  f1 : ByteArray
  f2 : (List S24)
structure S29 where
  f0 : Int
  f1 : ByteArray
  f2 : (List S29)
def z29 : S29 := ⟨(0 : Int), (⟨#[]⟩ : ByteArray), ([] : List S29)⟩
def F29 (d : Kd S29) : Kd S29 := Kd.iso (Kd.pair (Kd.int .i64) (Kd.pair Kd.string (Kd.slice 29 d))) (fun x : S29 => (x.f0, x.f1, x.f2))
theorem mono29 : Kd.Mono F29 := Kd.mono_iso _ (Kd.mono_pair (Kd.mono_const _) (Kd.mono_pair (Kd.mono_const _) (Kd.mono_slice 29 Kd.mono_id)))
theorem sub29 : Kd.Sub F29 [29] := Kd.sub_iso _ (Kd.sub_pair (Kd.sub_const _ (by decide)) (Kd.sub_pair (Kd.sub_const _ (by decide)) (Kd.sub_slice 29 (by decide) Kd.sub_id)))
theorem sz29 : ∀ n, (Kd.upto F29 3 [29] n).sz = 3 := Kd.upto_sz (fun _ => rfl)
def k29 : Kd S29 := Kd.fix F29 3 [29] sz29 (Kd.upto_E sub29)
theorem k29_open {w : World} {x : S29} {cs : List Value} (h : k29.K w x cs) : ∃ A2 c2, cs = [.int .i64 x.f0, .string x.f1, .slice A2 x.f2.length c2] ∧ x.f2.length ≤ c2 ∧ k29.C w A2 x.f2.length x.f2 := by
  obtain ⟨n, h⟩ := h
  cases n with
  | zero => exact h.elim
  | succ n =>
    obtain ⟨_, _, rfl, rfl, ⟨_, _, rfl, rfl, ⟨A2, c2, rfl, l2, g2⟩⟩⟩ := h
    exact ⟨A2, c2, rfl, l2, Kd.fix_C g2⟩
theorem k29_mk (w : World) (x : S29) {A2 : Option Addr} {c2 : Nat} (l2 : x.f2.length ≤ c2) (g2 : k29.C w A2 x.f2.length x.f2) : k29.K w x [.int .i64 x.f0, .string x.f1, .slice A2 x.f2.length c2] := by
  obtain ⟨n2, q2⟩ := Kd.fix_C_back mono29 g2
  have r2 := Kd.upto_C_le mono29 sz29 (show n2 ≤ n2 by omega) q2
  exact ⟨n2 + 1, ⟨[.int .i64 x.f0], [.string x.f1, .slice A2 x.f2.length c2], rfl, rfl, ⟨[.string x.f1], [.slice A2 x.f2.length c2], rfl, rfl, ⟨A2, c2, rfl, l2, r2⟩⟩⟩⟩
theorem k29_mkM (w : World) (base : Nat) (ok : Nat → Prop) (x : S29) {v2 : Value} (g2 : k29.R 29 w base ok v2 x.f2) : k29.M w base ok x [.int .i64 x.f0, .string x.f1, v2] := by
  obtain ⟨n2, q2⟩ := Kd.fix_R_back mono29 g2
  have r2 := Kd.upto_R_le mono29 sz29 (show n2 ≤ n2 by omega) q2
  exact ⟨n2 + 1, ⟨[.int .i64 x.f0], [.string x.f1, v2], rfl, rfl, ⟨[.string x.f1], [v2], rfl, rfl, ⟨v2, rfl, r2⟩⟩⟩⟩
theorem k29_mkF (W : World) (ok : Nat → Prop) (x : S29) {A2 : Option Addr} {c2 : Nat} (l2 : x.f2.length ≤ c2) (g2 : Kd.F k29 W ok A2 x.f2.length x.f2) : Kd.FK k29 W ok x [.int .i64 x.f0, .string x.f1, .slice A2 x.f2.length c2] := fun W2 hW => k29_mk W2 x l2 (g2 W2 hW)
def rd_T29 (xs : List S29) (i : Int) : S29 := xs.getD i.toNat z29
theorem at_T29 {w : World} {A : Option Addr} {n : Nat} {xs : List S29} (h : Kd.C k29 w A n xs) (i : Int) (h0 : 0 ≤ i) (h1 : i < n) : ∃ ad A2 c2, A = some ad ∧ w.cell? (ad.add (i.toNat * 3)) = some (.int .i64 (rd_T29 xs i).f0) ∧ w.cell? ⟨(ad.add (i.toNat * 3)).block, (ad.add (i.toNat * 3)).off + 1, none⟩ = some (.string (rd_T29 xs i).f1) ∧ w.cell? ⟨(ad.add (i.toNat * 3)).block, (ad.add (i.toNat * 3)).off + 2, none⟩ = some (.slice A2 (rd_T29 xs i).f2.length c2) ∧ (rd_T29 xs i).f2.length ≤ c2 ∧ k29.C w A2 (rd_T29 xs i).f2.length (rd_T29 xs i).f2 := by
  obtain ⟨ad, c, e, _, hK, hc0⟩ := Kd.C_get h z29 i h0 h1
  have hc : ∀ j u, c[j]? = some u → w.cell? (ad.add (i.toNat * 3 + j)) = some u := hc0
  obtain ⟨A2, c2, rfl, l2, g2⟩ := k29_open hK
  exact ⟨ad, A2, c2, e, hc 0 _ rfl, by rw [← add_field _ _ 1 (by omega)]; exact hc 1 _ rfl, by rw [← add_field _ _ 2 (by omega)]; exact hc 2 _ rfl, l2, g2⟩
end Go.Proofs.Ytldgkgdgcfllmaa.P
end
section
namespace Go.Proofs.Ytldgkgdgcfllmaa.Pl
open Go.RowKit Go.Proofs.YtldgkgdgcfllmaaW.PrintWords Go.Proofs.YtldgkgdgcfllmaaW.PrintLast Go.Proofs.YtldgkgdgcfllmaaW.PrintMore
set_option linter.unusedVariables false
set_option linter.unusedSimpArgs false
theorem next {α : Type} {g : Nat → Option α} {r : α} (h : Ev (fun k => g (k + 1)) r) : Ev g r := by
  obtain ⟨K, hK⟩ := h
  refine ⟨K + 1, fun k hk => ?_⟩
  obtain ⟨m, rfl⟩ : ∃ m, k = m + 1 := ⟨k - 1, by omega⟩
  exact hK m (by omega)
theorem ev_some {α : Type} {a b : α} (h : a = b) : Ev (fun _ => some a) b := by subst h; exact Ev.now a
theorem ev_eq {α : Type} {g : Nat → Option α} {a b : α} (h : Ev g a) (e : a = b) : Ev g b := e ▸ h
theorem w64 {x : Int} (h0 : -9223372036854775808 ≤ x) (h1 : x ≤ 9223372036854775807) : wrap64 x = x := by
  unfold wrap64
  omega
theorem up1 {i : Nat} (h : i < 9223372036854775807) : wrap64 ((i : Int) + 1) = ((i + 1 : Nat) : Int) := by
  rw [w64 (by omega) (by omega)]
  omega
theorem rdOf_get {α : Type} (z : α) (xs : List α) (i : Nat) (h : i < xs.length) : rdOf z xs i = xs[i] := by
  simp [rdOf, List.getD_eq_getElem?_getD, h]
theorem len_bytes (s : ByteArray) : (bytesOf s).length = s.size := by
  simp only [bytesOf, List.length_map]
  exact Array.length_toList
theorem bt_get (s : ByteArray) (i : Nat) (h : i < s.size) : bt s i = (bytesOf s)[i]'(by rw [len_bytes]; exact h) := by
  simp only [bt, Int.toNat_natCast, h, dif_pos, bytesOf, List.getElem_map, Array.getElem_toList]
  rfl
theorem drop_cons (s : ByteArray) (i : Nat) (h : i < s.size) : (bytesOf s).drop i = bt s i :: (bytesOf s).drop (i + 1) := by
  rw [List.drop_eq_getElem_cons (by rw [len_bytes]; exact h), bt_get s i h]
theorem drop_end (s : ByteArray) (i : Nat) (h : s.size ≤ i) : (bytesOf s).drop i = [] := List.drop_eq_nil_of_le (by rw [len_bytes]; exact h)
theorem take_snoc (s : ByteArray) (i : Nat) (h : i < s.size) : (bytesOf s).take (i + 1) = (bytesOf s).take i ++ [bt s i] := by
  rw [List.take_succ_eq_append_getElem (by rw [len_bytes]; exact h), bt_get s i h]
theorem bytes_inj {a b : ByteArray} (h : bytesOf a = bytesOf b) : a = b := by
  have hd : a.data.toList = b.data.toList := by
    simp only [bytesOf] at h
    exact (List.map_inj_right (f := fun x : UInt8 => (x.toNat : Int)) (fun x y e => UInt8.toNat_inj.mp (by have e2 : (x.toNat : Int) = y.toNat := e; omega))).mp h
  cases a with
  | mk da =>
    cases b with
    | mk db =>
      congr
      exact Array.toList_inj.mp hd
theorem toList_iff {a b : ByteArray} : a.toList = b.toList ↔ a = b := by
  constructor
  · intro h
    rw [ByteArray.toList_eq, ByteArray.toList_eq] at h
    exact bytes_inj (by simp only [bytesOf, h])
  · intro h
    rw [h]
theorem bytes_extract (s : ByteArray) (a b : Nat) : bytesOf (s.extract a b) = ((bytesOf s).take b).drop a := by
  simp only [bytesOf, ByteArray.data_extract, Array.toList_extract, List.extract_eq_take_drop, List.map_take, List.map_drop, List.drop_take]
end Go.Proofs.Ytldgkgdgcfllmaa.Pl
end
section
namespace Go.Proofs.Ytldgkgdgcfllmaa.Rk
open Go.RowKit Go.Deep Go.ChangeShapes Go.WideShapes Go.Proofs.YtldgkgdgcfllmaaW.PrintWords Go.Proofs.YtldgkgdgcfllmaaW.PrintLast Go.Proofs.YtldgkgdgcfllmaaW.PrintMore
set_option linter.unusedVariables false
set_option linter.unusedSimpArgs false
variable {H : Type} {enc : TypeId × Value → H} {P : Program} {w : World} {base : Nat} {spare : Nat → Bool} {held : Bool} {α : Type}
end Go.Proofs.Ytldgkgdgcfllmaa.Rk
end
section
namespace Go.Proofs.Ytldgkgdgcfllmaa.Rk
open Go.RowKit Go.Deep Go.ChangeShapes Go.WideShapes Go.Proofs.Ytldgkgdgcfllmaa.P Go.Proofs.YtldgkgdgcfllmaaW.PrintWords Go.Proofs.YtldgkgdgcfllmaaW.PrintLast Go.Proofs.YtldgkgdgcfllmaaW.PrintMore
set_option linter.unusedVariables false
set_option linter.unusedSimpArgs false
variable {H : Type} {enc : TypeId × Value → H} {w : World} {base : Nat} {spare : Nat → Bool} {held : Bool}
end Go.Proofs.Ytldgkgdgcfllmaa.Rk
end
section
namespace Go.Proofs.Ytldgkgdgcfllmaa.P
open Go.RowKit Go.Proofs.YtldgkgdgcfllmaaW.PrintWords Go.Proofs.YtldgkgdgcfllmaaW.PrintLast Go.Proofs.YtldgkgdgcfllmaaW.PrintMore
attribute [local go_sem] max2_int min2_int max_two min_two max_three min_three max_four min_four
set_option linter.unusedVariables false
set_option linter.unusedSimpArgs false
end Go.Proofs.Ytldgkgdgcfllmaa.P
end
section
namespace Go.Proofs.Ytldgkgdgcfllmaa.P
open Go.RowKit Go.Proofs.YtldgkgdgcfllmaaW.PrintWords Go.Proofs.YtldgkgdgcfllmaaW.PrintLast Go.Proofs.YtldgkgdgcfllmaaW.PrintMore
attribute [local go_sem] max2_int min2_int max_two min_two max_three min_three max_four min_four
set_option linter.unusedVariables false
set_option linter.unusedSimpArgs false
end Go.Proofs.Ytldgkgdgcfllmaa.P
end
section
namespace Go.Proofs.Ytldgkgdgcfllmaa.P
open Go.RowKit Go.Proofs.YtldgkgdgcfllmaaW.PrintWords Go.Proofs.YtldgkgdgcfllmaaW.PrintLast Go.Proofs.YtldgkgdgcfllmaaW.PrintMore
attribute [local go_sem] max2_int min2_int max_two min_two max_three min_three max_four min_four
set_option linter.unusedVariables false
set_option linter.unusedSimpArgs false
end Go.Proofs.Ytldgkgdgcfllmaa.P
end
section
namespace Go.Proofs.Ytldgkgdgcfllmaa.Pl
open Go.RowKit Go.Proofs.Ytldgkgdgcfllmaa Go.Proofs.Ytldgkgdgcfllmaa.P Go.Proofs.Ytldgkgdgcfllmaa.Rk Go.Proofs.YtldgkgdgcfllmaaW.PrintWords Go.Proofs.YtldgkgdgcfllmaaW.PrintLast Go.Proofs.YtldgkgdgcfllmaaW.PrintMore
set_option linter.unusedVariables false
set_option linter.unusedSimpArgs false
abbrev TL := S24
abbrev TI := S29
mutual
theorem TI.ind {p : TI → Prop} (h : ∀ x : TI, (∀ y ∈ x.f2, p y) → p x) : ∀ x, p x
  | ⟨a, s, l⟩ => h _ (TI.inds h l)
theorem TI.inds {p : TI → Prop} (h : ∀ x : TI, (∀ y ∈ x.f2, p y) → p x) : ∀ (l : List TI), ∀ y ∈ l, p y
  | [], _, hy => by cases hy
  | x :: l, y, hy => by
    rcases List.mem_cons.mp hy with q | q
    · rw [q]; exact TI.ind h x
    · exact TI.inds h l y q
end
mutual
theorem TL.ind {p : TL → Prop} (h : ∀ x : TL, (∀ y ∈ x.f2, p y) → p x) : ∀ x, p x
  | ⟨a, s, l⟩ => h _ (TL.inds h l)
theorem TL.inds {p : TL → Prop} (h : ∀ x : TL, (∀ y ∈ x.f2, p y) → p x) : ∀ (l : List TL), ∀ y ∈ l, p y
  | [], _, hy => by cases hy
  | x :: l, y, hy => by
    rcases List.mem_cons.mp hy with q | q
    · rw [q]; exact TL.ind h x
    · exact TL.inds h l y q
end
mutual
def cv : TL → TI
  | ⟨a, s, l⟩ => ⟨a, s, cvs l⟩
def cvs : List TL → List TI
  | [] => []
  | x :: l => cv x :: cvs l
end
theorem rdTI (l : List TI) (i : Nat) (h : i < l.length) : rd_T29 l (i : Int) = l[i] := by
  unfold rd_T29
  rw [Int.toNat_natCast, List.getD_eq_getElem?_getD, List.getElem?_eq_getElem h]
  rfl
inductive Thin : TI → Prop
  | mk (x : TI) (h : x.f2.length ≤ 1048576) (hs : x.f1.size ≤ 1048576) (hc : ∀ y ∈ x.f2, Thin y) : Thin x
end Go.Proofs.Ytldgkgdgcfllmaa.Pl
end
section
namespace Go.Proofs.Ytldgkgdgcfllmaa.Wk
open Go.RowKit Go.Shelf Go.Proofs.Ytldgkgdgcfllmaa.P Go.Proofs.Ytldgkgdgcfllmaa.Pl Go.Proofs.YtldgkgdgcfllmaaW.PrintWords Go.Proofs.YtldgkgdgcfllmaaW.PrintLast Go.Proofs.YtldgkgdgcfllmaaW.PrintMore
set_option linter.unusedVariables false
set_option linter.unusedSimpArgs false
mutual
def eqT : TI → TI → Bool
  | ⟨a, s, l⟩, ⟨b, u, m⟩ => (decide (a = b) && decide (s = u)) && eqTs l m
def eqTs : List TI → List TI → Bool
  | [], [] => true
  | x :: l, y :: m => eqT x y && eqTs l m
  | [], _ :: _ => false
  | _ :: _, [] => false
end
mutual
theorem eqT_iff : ∀ x y : TI, eqT x y = true ↔ x = y
  | ⟨a, s, l⟩, ⟨b, u, m⟩ => by
    rw [eqT, Bool.and_eq_true, Bool.and_eq_true, decide_eq_true_eq, decide_eq_true_eq, eqTs_iff l m]
    constructor
    · rintro ⟨⟨h1, h2⟩, h3⟩; rw [h1, h2, h3]
    · intro h; injection h with h1 h2 h3; exact ⟨⟨h1, h2⟩, h3⟩
theorem eqTs_iff : ∀ x y : List TI, eqTs x y = true ↔ x = y
  | [], [] => by simp [eqTs]
  | x :: l, y :: m => by rw [eqTs, Bool.and_eq_true, eqT_iff x y, eqTs_iff l m, List.cons_eq_cons]
  | [], _ :: _ => by simp [eqTs]
  | _ :: _, [] => by simp [eqTs]
end
theorem eqT_true {x y : TI} : eqT x y = true ↔ x = y := eqT_iff x y
theorem eqTs_true {x y : List TI} : eqTs x y = true ↔ x = y := eqTs_iff x y
theorem eqT_false {x y : TI} : eqT x y = false ↔ ¬ x = y := by rw [← eqT_true]; simp
theorem eqTs_false {x y : List TI} : eqTs x y = false ↔ ¬ x = y := by rw [← eqTs_true]; simp
abbrev argT (x : TI) (A : Option Addr) (c : Nat) : Value := .agg #[.int .i64 x.f0, .string x.f1, .slice A x.f2.length c]
def EqAt (x : TI) : Prop := ∀ (y : TI) (A : Option Addr) (c : Nat) (B : Option Addr) (d : Nat) (W : World), Kd.C k29 W A x.f2.length x.f2 → x.f2.length ≤ c → Kd.C k29 W B y.f2.length y.f2 → y.f2.length ≤ d →
  Calls Try.prog 15 #[argT x A c, argT y B d] W fun e W' => e = .returned (.bool (eqT x y)) ∧ Below W.heap.size W W'
set_option maxHeartbeats 2000000 in
theorem eqTrees_ne (A1 A2 : Option Addr) (n1 n2 c1 c2 : Nat) (v : Value) (w : World) (hne : n1 ≠ n2) :
    Calls Try.prog 39 #[.slice A1 n1 c1, .slice A2 n2 c2, v] w fun e w' => e = .returned (.bool false) ∧ Below w.heap.size w w' := by
  have tn : ((n1 : Int) != (n2 : Int)) = true := by rw [bne_iff_ne]; omega
  clear hne
  go_enter Try.func39, Try.ntmps39
  go_wp2
  go_ret
  exact ⟨rfl, Below.refl _ _⟩
set_option maxHeartbeats 2000000 in
theorem eqTrees (a b : List TI) (A1 A2 : Option Addr) (n c1 c2 : Nat) (w : World) (hna : n = a.length) (hnb : n = b.length) (ha : Kd.C k29 w A1 a.length a) (hb : Kd.C k29 w A2 b.length b) (ih : ∀ x ∈ a, EqAt x) (eg : ∀ args w, (callFunc 15 args).run Try.prog w = .ok (.enter 15 args) w) :
    Calls Try.prog 39 #[.slice A1 n c1, .slice A2 n c2, .func (.func 15) #[] #[]] w fun e w' => e = .returned (.bool (eqTs a b)) ∧ Below w.heap.size w w' := by
  have tn : ((n : Int) != (n : Int)) = false := by simp
  have hn : n ≤ 9223372036854775807 := by rw [hna]; exact ha.2.1
  have HN := am_ hna
  have HM := am_ hnb
  have HA := am_ ha
  have HBB := am_ hb
  have IH := am_ ih
  clear hna hnb ha hb ih
  rcases Nat.eq_zero_or_pos n with h0 | h0
  · subst h0
    have e : eqTs a b = true := by
      rw [eqTs_true, List.eq_nil_of_length_eq_zero HN.out.symm, List.eq_nil_of_length_eq_zero HM.out.symm]
    rw [e]
    clear e
    go_enter Try.func39, Try.ntmps39
    go_wp2
    go_loopg [7, 8, 9, 17] 0 (fun _ _ _ _ s17 wr => s17 = .int .i64 0 ∧ wr = w)
    case atStart => exact ⟨rfl, rfl⟩
    case round =>
      obtain ⟨rfl, rfl⟩ := hrel
      go_wp2
      go_ret
      exact ⟨rfl, Below.refl _ _⟩
  · obtain ⟨ad1, hA1, hc1⟩ := HA.out.2.2 (by have := HN.out; omega)
    obtain ⟨ad2, hA2, hc2⟩ := HBB.out.2.2 (by have := HM.out; omega)
    subst hA1
    subst hA2
    clear hc1 hc2
    go_enter Try.func39, Try.ntmps39
    go_wp2
    go_loopg [7, 8, 9, 17] n (fun gg _ _ _ s17 wr => ∃ kk : Nat, s17 = .int .i64 kk ∧ Aside0 (kk ≤ n) ∧ Aside0 (n - kk ≤ gg) ∧ Aside0 (Below w.heap.size w wr) ∧ Aside0 (a.take kk = b.take kk))
    case atStart => exact ⟨0, rfl, ⟨Nat.zero_le _⟩, ⟨by omega⟩, ⟨Below.refl _ _⟩, ⟨rfl⟩⟩
    case round =>
      obtain ⟨kk, rfl, HK, HG, HB, HQ⟩ := hrel
      by_cases hlt : kk < n
      · have hltz : (kk : Int) < (n : Int) := by omega
        have hla : kk < a.length := by have := HN.out; omega
        have hlb : kk < b.length := by have := HM.out; omega
        obtain ⟨q1, Aa, ca, e1, x0, x1, x2, xl, xc⟩ := at_T29 (Kd.C_below HA.out HB.out) (kk : Int) (by omega) (by omega)
        cases e1
        obtain ⟨q2, Ab, cb, e2, y0, y1, y2, yl, yc⟩ := at_T29 (Kd.C_below HBB.out HB.out) (kk : Int) (by omega) (by omega)
        cases e2
        rw [rdTI a kk hla, Int.toNat_natCast] at x0 x1 x2
        rw [rdTI a kk hla] at xl xc
        rw [rdTI b kk hlb, Int.toNat_natCast] at y0 y1 y2
        rw [rdTI b kk hlb] at yl yc
        have HCALL := am_ (fun W (hb : Below wr.heap.size wr W) => IH.out _ (List.getElem_mem hla) b[kk] Aa ca Ab cb W (Kd.C_below xc hb) xl (Kd.C_below yc hb) yl)
        have HT : Aside0 (a.take (kk + 1) = b.take (kk + 1) ↔ a[kk] = b[kk]) := ⟨by
          rw [List.take_succ_eq_append_getElem hla, List.take_succ_eq_append_getElem hlb, HQ.out]
          constructor
          · intro h_
            have := List.append_cancel_left h_
            simpa using this
          · intro h_
            rw [h_]⟩
        have HE : Aside0 (a = b → a[kk] = b[kk]) := ⟨by rintro rfl; rfl⟩
        generalize a[kk] = xa at x0 x1 x2 HCALL HT HE
        generalize b[kk] = xb at y0 y1 y2 HCALL HT HE
        clear xl xc yl yc
        have y0 := pw_cell_below (below_alloc (Below.refl _ _) (Obj.cells #[Value.int IntKind.i64 xa.f0, Value.string xa.f1, Value.slice Aa xa.f2.length ca] 29)) y0
        have y1 := pw_cell_below (below_alloc (Below.refl _ _) (Obj.cells #[Value.int IntKind.i64 xa.f0, Value.string xa.f1, Value.slice Aa xa.f2.length ca] 29)) y1
        have y2 := pw_cell_below (below_alloc (Below.refl _ _) (Obj.cells #[Value.int IntKind.i64 xa.f0, Value.string xa.f1, Value.slice Aa xa.f2.length ca] 29)) y2
        have hq0 := eqT_true (x := xa) (y := xb)
        cases hq : eqT xa xb with
        | true =>
          rw [hq] at hq0
          have HQ1 := am_ (HT.out.mpr (hq0.mp rfl))
          have HCALL2 : Aside0 (∀ W, Below wr.heap.size wr W → Calls Try.prog 15 #[argT xa Aa ca, argT xb Ab cb] W fun e W' => e = .returned (.bool true) ∧ Below W.heap.size W W') := ⟨fun W hb => by have := HCALL.out W hb; rw [hq] at this; exact this⟩
          clear hq hq0 HCALL HT HE
          go_wp2_with (go_at_fn 15; refine (HCALL2.out _ (by exact below_alloc (below_alloc (Below.refl _ _) _) _)).mono ?_; rintro e w' ⟨rfl, hb⟩; have HB2 := am_ (below_then (below_alloc (below_alloc (Below.refl wr.heap.size wr) _) _) (by simp; omega) hb); clear hb)
          go_roundg (n - (kk + 1))
          case measure => have := HG.out; omega
          case rel => exact ⟨kk + 1, by go_num, ⟨by omega⟩, ⟨by omega⟩, ⟨below_then HB.out HB.out.size HB2.out⟩, HQ1⟩
        | false =>
          have e : eqTs a b = false := by
            rw [eqTs_false]
            intro e
            rw [eqT_false] at hq
            exact hq (HE.out e)
          have HCALL2 : Aside0 (∀ W, Below wr.heap.size wr W → Calls Try.prog 15 #[argT xa Aa ca, argT xb Ab cb] W fun e W' => e = .returned (.bool false) ∧ Below W.heap.size W W') := ⟨fun W hb => by have := HCALL.out W hb; rw [hq] at this; exact this⟩
          have HEE := am_ e
          clear hq hq0 HCALL HT HE e
          go_wp2_with (go_at_fn 15; refine (HCALL2.out _ (by exact below_alloc (below_alloc (Below.refl _ _) _) _)).mono ?_; rintro e w' ⟨rfl, hb⟩; have HB2 := am_ (below_then (below_alloc (below_alloc (Below.refl wr.heap.size wr) _) _) (by simp; omega) hb); clear hb)
          go_ret
          rw [HEE.out]
          exact ⟨rfl, below_then HB.out HB.out.size HB2.out⟩
      · have hltz : ¬ (kk : Int) < (n : Int) := by omega
        have e : kk = n := by have := HK.out; omega
        subst e
        have e : eqTs a b = true := by
          rw [eqTs_true]
          have := HQ.out
          rw [List.take_of_length_le (by have := HN.out; omega), List.take_of_length_le (by have := HM.out; omega)] at this
          exact this
        have HEE := am_ e
        clear e
        go_wp2
        go_ret
        rw [HEE.out]
        exact ⟨rfl, HB.out⟩
theorem eqTs_any (a b : List TI) (A1 A2 : Option Addr) (c1 c2 : Nat) (w : World) (ha : Kd.C k29 w A1 a.length a) (hb : Kd.C k29 w A2 b.length b) (ih : ∀ x ∈ a, EqAt x) :
    Calls Try.prog 39 #[.slice A1 a.length c1, .slice A2 b.length c2, .func (.func 15) #[] #[]] w fun e w' => e = .returned (.bool (eqTs a b)) ∧ Below w.heap.size w w' := by
  by_cases hl : a.length = b.length
  · have := eqTrees a b A1 A2 a.length c1 c2 w rfl hl ha hb ih (enters_of Try.func15 (by kernel_rfl) rfl)
    rw [hl] at this ⊢
    exact this
  · rw [show eqTs a b = false from eqTs_false.mpr (fun e => hl (by rw [e]))]
    exact eqTrees_ne A1 A2 a.length b.length c1 c2 _ w hl
set_option maxHeartbeats 2000000 in
set_option maxRecDepth 100000 in
theorem eqAt : ∀ x : TI, EqAt x := by
  refine TI.ind fun x ih => ?_
  intro y A c B d W hx hxc hy hyd
  have hu := Try.underlying29
  have HB0 := am_ (fun o1 o2 => below_alloc (below_alloc (Below.refl W.heap.size W) o1) o2)
  have HC := am_ (fun W' (hb : Below W.heap.size W W') => eqTs_any x.f2 y.f2 A B c d W' (Kd.C_below hx hb) (Kd.C_below hy hb) ih)
  have he : eqT x y = (decide (x.f0 = y.f0) && decide (x.f1 = y.f1) && eqTs x.f2 y.f2) := by
    rw [Bool.eq_iff_iff, eqT_true, Bool.and_eq_true, Bool.and_eq_true, decide_eq_true_eq, decide_eq_true_eq, eqTs_true]
    constructor
    · rintro rfl; exact ⟨⟨rfl, rfl⟩, rfl⟩
    · rintro ⟨⟨h1, h2⟩, h3⟩
      obtain ⟨x0, x1, x2⟩ := x
      obtain ⟨y0, y1, y2⟩ := y
      dsimp only at *
      rw [h1, h2, h3]
  rw [he]
  clear he hx hxc hy hyd ih
  unfold argT
  generalize eqTs x.f2 y.f2 = r at HC ⊢
  generalize x.f2.length = n1 at HC ⊢
  generalize y.f2.length = n2 at HC ⊢
  generalize x.f0 = a0 at HC ⊢
  generalize y.f0 = b0 at HC ⊢
  generalize x.f1 = s0 at HC ⊢
  generalize y.f1 = t0 at HC ⊢
  by_cases h1 : a0 = b0
  · have d1 : decide (a0 = b0) = true := decide_eq_true h1
    rw [d1, Bool.true_and]
    by_cases h2 : s0 = t0
    · have d2 : decide (s0 = t0) = true := decide_eq_true h2
      rw [d2, Bool.true_and]
      have d3 : (s0.toList == t0.toList) = true := by rw [h2]; exact beq_self_eq_true _
      have d4 : (a0 == b0) = true := by rw [h1]; exact beq_self_eq_true _
      clear h1 h2 d2
      go_enter Try.func15, Try.ntmps15
      go_wp2_with (go_at_call 39; refine (HC.out _ (by exact HB0.out _ _)).mono ?_; rintro e w' ⟨rfl, hb⟩; have HB := am_ hb; clear hb)
      go_ret
      exact ⟨rfl, below_then (HB0.out _ _) (by simp; omega) HB.out⟩
    · have d2 : decide (s0 = t0) = false := decide_eq_false h2
      rw [d2, Bool.false_and]
      have d3 : (s0.toList == t0.toList) = false := beq_eq_false_iff_ne.mpr (fun e => h2 (toList_iff.mp e))
      have d4 : (a0 == b0) = true := by rw [h1]; exact beq_self_eq_true _
      clear h1 h2 d2
      go_enter Try.func15, Try.ntmps15
      go_wp2
      go_ret
      exact ⟨rfl, HB0.out _ _⟩
  · have d1 : decide (a0 = b0) = false := decide_eq_false h1
    rw [d1, Bool.false_and, Bool.false_and]
    have d4 : (a0 == b0) = false := beq_eq_false_iff_ne.mpr h1
    clear h1
    go_enter Try.func15, Try.ntmps15
    go_wp2
    go_ret
    exact ⟨rfl, HB0.out _ _⟩
end Go.Proofs.Ytldgkgdgcfllmaa.Wk
end
section
namespace Go.Proofs.Ytldgkgdgcfllmaa.P
open Go.RowKit Go.Proofs.YtldgkgdgcfllmaaW.PrintWords Go.Proofs.YtldgkgdgcfllmaaW.PrintLast Go.Proofs.YtldgkgdgcfllmaaW.PrintMore
attribute [local go_sem] max2_int min2_int max_two min_two max_three min_three max_four min_four
set_option linter.unusedVariables false
set_option linter.unusedSimpArgs false
def impl_EqualRegex.f (a0_0 : Int) (a0_1 : ByteArray) (l0_2 : List S29) (a1_0 : Int) (a1_1 : ByteArray) (l1_2 : List S29) : Option Bool := some (Wk.eqT ⟨a0_0, a0_1, l0_2⟩ ⟨a1_0, a1_1, l1_2⟩)
theorem impl_EqualRegex.calls (a0_0 : Int) (a0_1 : ByteArray) (A0_2 : Option Addr) (c0_2 : Nat) (l0_2 : List S29) (a1_0 : Int) (a1_1 : ByteArray) (A1_2 : Option Addr) (c1_2 : Nat) (l1_2 : List S29) (r : Bool) (w : World) (hr0_2 : Kd.C k29 w A0_2 l0_2.length l0_2) (hc0_2 : l0_2.length ≤ c0_2) (hr1_2 : Kd.C k29 w A1_2 l1_2.length l1_2) (hc1_2 : l1_2.length ≤ c1_2) (h : impl_EqualRegex.f a0_0 a0_1 l0_2 a1_0 a1_1 l1_2 = some r) :
    Calls Try.prog 15 #[.agg #[.int .i64 a0_0, .string a0_1, .slice A0_2 l0_2.length c0_2], .agg #[.int .i64 a1_0, .string a1_1, .slice A1_2 l1_2.length c1_2]] w fun e w' => e = .returned (.bool r) ∧ Below w.heap.size w w' := by
  obtain rfl := Option.some.inj h
  exact Wk.eqAt ⟨a0_0, a0_1, l0_2⟩ ⟨a1_0, a1_1, l1_2⟩ A0_2 c0_2 A1_2 c1_2 w hr0_2 hc0_2 hr1_2 hc1_2
end Go.Proofs.Ytldgkgdgcfllmaa.P
end
