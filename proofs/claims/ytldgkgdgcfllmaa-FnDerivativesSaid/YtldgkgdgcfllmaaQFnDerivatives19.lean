/- The law FnDerivatives holds for every input. No condition. -/
import Derived.Test.YtldgkgdgcfllmaaQFnDerivatives12
import Derived.Test.YtldgkgdgcfllmaaQFnDerivatives13
import Derived.Test.YtldgkgdgcfllmaaQFnDerivatives14
import Derived.Test.YtldgkgdgcfllmaaQFnDerivatives15
import Derived.Test.YtldgkgdgcfllmaaQFnDerivatives16
import Derived.Test.YtldgkgdgcfllmaaQFnDerivatives4
import Derived.Test.YtldgkgdgcfllmaaQFnDerivatives17
import Derived.Test.YtldgkgdgcfllmaaQFnDerivatives3
import Derived.Shelf.Abstract
import Derived.Lib.Walk
import Derived.Test.YtldgkgdgcfllmaaQFnDerivatives2
import Derived.Test.YtldgkgdgcfllmaaQFnDerivatives10
import Derived.Test.YtldgkgdgcfllmaaQFnDerivatives11
import Derived.Test.YtldgkgdgcfllmaaQFnDerivatives18
import Derived.SizedLaws
import Derived.ChangeSlices
import Derived.Test.YtldgkgdgcfllmaaRows
import Derived.WalkKit
import Derived.ProofKit
import Derived.OpenShut
import Derived.ShutString
import Derived.ChangeOld
import Derived.Below
section
namespace Go.Proofs.Ytldgkgdgcfllmaa.Pl
open Go.RowKit Go.Proofs.Ytldgkgdgcfllmaa.P Go.Proofs.YtldgkgdgcfllmaaW.PrintWords Go.Proofs.YtldgkgdgcfllmaaW.PrintLast Go.Proofs.YtldgkgdgcfllmaaW.PrintMore Rk
set_option linter.unusedVariables false
set_option linter.unusedSimpArgs false
theorem new_l0 (b : List Int) (hb : b.length ≤ 140737488351232) : ∀ (d i : Nat) (h : Int), i + d = b.length → ∃ r, Ev (fun k => spec_l1New.l0 k b h i) (b, 0, r) := by
  intro d
  induction d with
  | zero =>
    intro i h e
    refine ⟨h, next ?_⟩
    simp only [spec_l1New.l0, if_neg (show ¬ (i : Int) < (b.length : Int) by omega)]
    exact Ev.now _
  | succ d ih =>
    intro i h e
    by_cases hi : (i : Int) < 4000
    · obtain ⟨r, hr⟩ := ih (i + 1) (Go.bits .and .i64 (wrap64 ((wrap64 ((wrap64 (h * 131)) + (wrap64 (rd b i)))) + 7)) 1073741823) (by omega)
      refine ⟨r, next ?_⟩
      simp only [spec_l1New.l0, if_pos (show (i : Int) < (b.length : Int) by omega), if_pos hi, if_pos (show (0 : Int) ≤ i by omega), up1 (show i < 9223372036854775807 by omega)]
      exact hr
    · refine ⟨h, next ?_⟩
      simp only [spec_l1New.l0, if_pos (show (i : Int) < (b.length : Int) by omega), if_neg hi]
      exact Ev.now _
theorem new (b : List Int) (hb : b.length ≤ 140737488351232) : ∃ r, Ev (fun k => spec_l1New.f k b) (b, 0, r) := by
  simp only [spec_l1New.f]
  exact new_l0 b hb b.length 0 _ (by omega)
theorem and255 (x : Int) : 0 ≤ Go.bits .and .i64 x 255 ∧ Go.bits .and .i64 x 255 ≤ 255 := by
  have h : (BitVec.ofInt 64 x &&& BitVec.ofInt 64 255).toNat ≤ 255 := by
    rw [BitVec.toNat_and]
    exact Nat.and_le_right
  have e : Go.bits .and .i64 x 255 = ((BitVec.ofInt 64 x &&& BitVec.ofInt 64 255).toNat : Int) := by
    show IntKind.i64.wrap ((BitVec.ofInt 64 x &&& BitVec.ofInt 64 255).toNat : Int) = _
    rw [IntKind.wrap_i64]
    omega
  omega
def Cur (b : List Int) (i : Int) : Prop := 0 ≤ i ∧ i ≤ b.length
theorem byte (b : List Int) (hb : b.length ≤ 140737488351232) (i h : Int) (hi : Cur b i) : ∃ x i' h', spec_l1Byte.f b i h = some (x, i', h') ∧ 0 ≤ x ∧ x ≤ 255 ∧ Cur b i' := by
  unfold Cur at hi ⊢
  by_cases hl : i < (b.length : Int)
  · unfold spec_l1Byte.f
    rw [if_pos hl, if_pos hi.1, w64 (show -9223372036854775808 ≤ i + 1 by omega) (by omega)]
    exact ⟨_, _, _, rfl, (and255 _).1, (and255 _).2, by omega, by omega⟩
  · unfold spec_l1Byte.f
    rw [if_neg hl]
    exact ⟨_, _, _, rfl, (and255 _).1, (and255 _).2, by omega, by omega⟩
theorem below (b : List Int) (hb : b.length ≤ 140737488351232) (i h : Int) (hi : Cur b i) (n : Int) (hn : 0 < n) (hn2 : n ≤ 256) : ∃ x i' h', spec_l1Below.f b i h n = some (x, i', h') ∧ 0 ≤ x ∧ x < n ∧ Cur b i' := by
  obtain ⟨x, i', h', e, hx, hx2, hc⟩ := byte b hb i h hi
  refine ⟨x % n, i', h', ?_, by exact Int.emod_nonneg _ (by omega), Int.emod_lt_of_pos _ hn, hc⟩
  simp only [spec_l1Below.f, if_neg (show ¬ n ≤ 0 by omega), if_pos hn2, e, Option.bind_some, if_neg (show ¬ n = 0 by omega), Int.tmod_eq_emod_of_nonneg hx]
theorem pick (b : List Int) (hb : b.length ≤ 140737488351232) (i h : Int) (hi : Cur b i) (l : List ByteArray) (hn : 0 < l.length) (hn2 : l.length ≤ 256) : ∃ x i' h', spec_l1Pick.f b i h l = some (x, i', h') ∧ x ∈ l ∧ Cur b i' := by
  obtain ⟨x, i', h', e, hx, hx2, hc⟩ := below b hb i h hi l.length (by omega) (by omega)
  obtain ⟨m, rfl⟩ : ∃ m : Nat, x = m := ⟨x.toNat, by omega⟩
  refine ⟨l[m]'(by omega), i', h', ?_, List.getElem_mem _, hc⟩
  simp only [spec_l1Pick.f, e, Option.bind_some, if_pos hx, if_pos hx2, rdOf_get _ l m (by omega)]
theorem cur0 (b : List Int) : Cur b 0 := ⟨by omega, by omega⟩
def Small (x : TI) (n : Nat) : Prop := Thin x ∧ nd x ≤ n
theorem small_leaf (k : Int) (s : ByteArray) (hs : s.size ≤ 100) : Small ⟨k, s, []⟩ 1 := ⟨Thin.mk _ (by simp) (by show s.size ≤ _; omega) (fun y hy => by simp at hy), by rw [nd_eq, nds]; omega⟩
theorem small_one {a : TI} {n : Nat} (k : Int) (s : ByteArray) (hs : s.size ≤ 100) (h : Small a n) : Small ⟨k, s, [a]⟩ (1 + n) := ⟨Thin.mk _ (by simp) (by show s.size ≤ _; omega) (fun y hy => by
    rw [List.mem_singleton] at hy; subst hy; exact h.1), by rw [nd_eq]; simp only [nds]; have := h.2; omega⟩
theorem small_two {a b : TI} {n m : Nat} (k : Int) (s : ByteArray) (hs : s.size ≤ 100) (h : Small a n) (h2 : Small b m) : Small ⟨k, s, [a, b]⟩ (1 + n + m) := ⟨Thin.mk _ (by simp) (by show s.size ≤ _; omega) (fun y hy => by
    rcases List.mem_cons.mp hy with rfl | hy
    · exact h.1
    · rw [List.mem_singleton] at hy; subst hy; exact h2.1), by rw [nd_eq]; simp only [nds]; have := h.2; have := h2.2; omega⟩
theorem eta3 (a : TI) : (⟨a.f0, a.f1, a.f2⟩ : TI) = a := by cases a; rfl
def mostN : Nat → Nat
  | 0 => 1
  | n + 1 => 1 + 2 * mostN n
theorem mostN_pos (n : Nat) : 1 ≤ mostN n := by cases n <;> simp [mostN]
theorem small_more {x : TI} {n m : Nat} (h : Small x n) (hm : n ≤ m) : Small x m := ⟨h.1, Nat.le_trans h.2 hm⟩
section
variable {b : List Int} (hb : b.length ≤ 140737488351232)
include hb
theorem onceR (i h : Int) (hi : Cur b i) (n : Int) (hn : 0 < n) (hn2 : n ≤ 256) : ∃ x i' h', spec_l1Once.f b i h n = some (x, i', h') ∧ Cur b i' := by
  obtain ⟨x, i', h', e, _, _, hc⟩ := below b hb i h hi n hn hn2
  exact ⟨x == 0, i', h', by simp only [spec_l1Once.f, e, Option.bind_some], hc⟩
theorem draw_leaf (i h : Int) (hi : Cur b i) (d : Int) : ∃ (t : TI) (i' h' : Int), Ev (fun k => spec_l3Draw.j0 k d true b i h) (t.f0, t.f1, t.f2, i', h') ∧ Small t 1 ∧ t.f2.length ≤ 2 ∧ t.f1.size ≤ 2 ∧ Cur b i' := by
  obtain ⟨x, i1, h1, e1, x0, x8, c1⟩ := below b hb i h hi 8 (by omega) (by omega)
  by_cases q0 : x = 0
  · subst q0
    refine ⟨⟨2, ⟨#[]⟩, []⟩, i1, h1, next ?_, small_leaf _ _ (by decide), by simp, by decide, c1⟩
    simp only [spec_l3Draw.j0, if_true, e1, Option.bind_some]
    exact Ev.now _
  · by_cases q1 : x = 1
    · subst q1
      refine ⟨⟨4, ⟨#[]⟩, []⟩, i1, h1, next ?_, small_leaf _ _ (by decide), by simp, by decide, c1⟩
      simp only [spec_l3Draw.j0, if_true, e1, Option.bind_some, Int.reduceEq, if_false]
      exact Ev.now _
    · by_cases q2 : x = 2
      · subst q2
        refine ⟨⟨1, ⟨#[]⟩, []⟩, i1, h1, next ?_, small_leaf _ _ (by decide), by simp, by decide, c1⟩
        simp only [spec_l3Draw.j0, if_true, e1, Option.bind_some, Int.reduceEq, if_false]
        exact Ev.now _
      · obtain ⟨s, i2, h2, e2, hs, c2⟩ := pick b hb i1 h1 c1 [⟨#[97]⟩, ⟨#[97]⟩, ⟨#[98]⟩, ⟨#[98]⟩, ⟨#[99]⟩] (by simp) (by simp)
        have hsz : s.size ≤ 2 := by
          simp only [List.mem_cons, List.not_mem_nil, or_false] at hs
          rcases hs with rfl | rfl | rfl | rfl | rfl <;> decide
        refine ⟨⟨3, s, []⟩, i2, h2, next ?_, small_leaf _ _ (by omega), by simp, hsz, c2⟩
        simp only [spec_l3Draw.j0, if_true, e1, Option.bind_some, if_neg q0, if_neg q1, if_neg q2, e2]
        exact Ev.now _
theorem draw_tree : ∀ (n : Nat) (d : Int) (i h : Int), d ≤ (n : Int) + 1 → 0 ≤ d → n ≤ 10 → Cur b i → ∃ (t : TI) (i' h' : Int), Ev (fun k => spec_l3Draw.f k b i h d) (t.f0, t.f1, t.f2, i', h') ∧ Small t (mostN n) ∧ t.f2.length ≤ 2 ∧ t.f1.size ≤ 2 ∧ Cur b i' := by
  intro n
  induction n with
  | zero =>
    intro d i h hd hd0 hn hi
    obtain ⟨t, i', h', he, hs, h2, h3, hc⟩ := draw_leaf hb i h hi d
    refine ⟨t, i', h', next ?_, hs, h2, h3, hc⟩
    simp only [spec_l3Draw.f, if_pos (show d < 2 by omega)]
    exact he
  | succ n ih =>
    intro d i h hd hd0 hn hi
    by_cases hd2 : d < 2
    · obtain ⟨t, i', h', he, hs, h2, h3, hc⟩ := draw_leaf hb i h hi d
      refine ⟨t, i', h', next ?_, small_more hs (mostN_pos _), h2, h3, hc⟩
      simp only [spec_l3Draw.f, if_pos hd2]
      exact he
    · obtain ⟨o, i1, h1, e1, c1⟩ := onceR hb i h hi 5 (by omega) (by omega)
      cases o with
      | true =>
        obtain ⟨t, i', h', he, hs, h2, h3, hc⟩ := draw_leaf hb i1 h1 c1 d
        refine ⟨t, i', h', next ?_, small_more hs (mostN_pos _), h2, h3, hc⟩
        simp only [spec_l3Draw.f, if_neg hd2, e1, Option.bind_some]
        exact he
      | false =>
        obtain ⟨x, i2, h2, e2, x0, x10, c2⟩ := below b hb i1 h1 c1 10 (by omega) (by omega)
        have ew : wrap64 (d - 1) = d - 1 := w64 (by omega) (by omega)
        obtain ⟨ta, ia, ha, ea, sa, _, _, ca⟩ := ih (d - 1) i2 h2 (by omega) (by omega) (by omega) c2
        obtain ⟨tb, ib, hb2, eb, sb, _, _, cb⟩ := ih (d - 1) ia ha (by omega) (by omega) (by omega) ca
        have hm : mostN (n + 1) = 1 + 2 * mostN n := rfl
        have one : ∀ (k : Int) (y : Int) (b0 : Bool), (b0 = true ∧ k = 8) ∨ (b0 = false ∧ y = 3 ∧ k = 9) → Ev (fun q => spec_l3Draw.j1 q d y b0 b i2 h2) (k, ⟨#[]⟩, [ta], ia, ha) := fun k y b0 hk => by
          rcases hk with ⟨rfl, rfl⟩ | ⟨rfl, rfl, rfl⟩
          · refine next ?_
            simp only [spec_l3Draw.j1, if_true, ew]
            refine Ev.bind ea ?_
            simp only [eta3]
            exact Ev.now _
          · refine next ?_
            simp only [spec_l3Draw.j1, Bool.false_eq_true, if_false, if_true, ew]
            refine Ev.bind ea ?_
            simp only [eta3]
            exact Ev.now _
        have two : ∀ (k : Int) (b0 : Bool), (b0 = true ∧ k = 6) ∨ (b0 = false ∧ k = 5) → Ev (fun q => spec_l3Draw.j2 q d b0 b i2 h2) (k, ⟨#[]⟩, [ta, tb], ib, hb2) := fun k b0 hk => by
          rcases hk with ⟨rfl, rfl⟩ | ⟨rfl, rfl⟩
          · refine next ?_
            simp only [spec_l3Draw.j2, if_true, ew]
            refine Ev.bind ea (Ev.bind eb ?_)
            simp only [eta3]
            exact Ev.now _
          · refine next ?_
            simp only [spec_l3Draw.j2, Bool.false_eq_true, if_false, ew]
            refine Ev.bind ea (Ev.bind eb ?_)
            simp only [eta3]
            exact Ev.now _
        have all : ∃ (t : TI) (i' h' : Int), Ev (fun k => spec_l3Draw.j0 k d false b i1 h1) (t.f0, t.f1, t.f2, i', h') ∧ Small t (mostN (n + 1)) ∧ t.f2.length ≤ 2 ∧ t.f1.size ≤ 2 ∧ Cur b i' := by
          have mk1 : ∀ k : Int, (Ev (fun q => spec_l3Draw.j0 q d false b i1 h1) (k, ⟨#[]⟩, [ta], ia, ha)) → ∃ (t : TI) (i' h' : Int), Ev (fun k => spec_l3Draw.j0 k d false b i1 h1) (t.f0, t.f1, t.f2, i', h') ∧ Small t (mostN (n + 1)) ∧ t.f2.length ≤ 2 ∧ t.f1.size ≤ 2 ∧ Cur b i' := fun k he =>
            ⟨⟨k, ⟨#[]⟩, [ta]⟩, ia, ha, he, small_more (small_one k ⟨#[]⟩ (by decide) sa) (by have := mostN_pos (n := n); omega), by simp, by show (0 : Nat) ≤ 2; omega, ca⟩
          have mk2 : ∀ k : Int, (Ev (fun q => spec_l3Draw.j0 q d false b i1 h1) (k, ⟨#[]⟩, [ta, tb], ib, hb2)) → ∃ (t : TI) (i' h' : Int), Ev (fun k => spec_l3Draw.j0 k d false b i1 h1) (t.f0, t.f1, t.f2, i', h') ∧ Small t (mostN (n + 1)) ∧ t.f2.length ≤ 2 ∧ t.f1.size ≤ 2 ∧ Cur b i' := fun k he =>
            ⟨⟨k, ⟨#[]⟩, [ta, tb]⟩, ib, hb2, he, small_more (small_two k ⟨#[]⟩ (by decide) sa sb) (by omega), by simp, by show (0 : Nat) ≤ 2; omega, cb⟩
          have j0 : ∀ {v}, Ev (fun q => if x = 0 then (spec_l3Draw.j1 q d x (x == 0) b i2 h2) else (if x = 1 then (spec_l3Draw.j1 q d x (x == 1) b i2 h2) else (spec_l3Draw.j1 q d x (x == 2) b i2 h2))) v → Ev (fun q => spec_l3Draw.j0 q d false b i1 h1) v := fun he => by
            refine next ?_
            simp only [spec_l3Draw.j0, Bool.false_eq_true, if_false, e2, Option.bind_some]
            exact he
          rcases (show x = 0 ∨ x = 1 ∨ x = 2 ∨ x = 3 ∨ x = 4 ∨ x = 5 ∨ x = 6 ∨ 7 ≤ x by omega) with rfl | rfl | rfl | rfl | rfl | rfl | rfl | h7
          · exact mk1 8 (j0 (by simp only [if_true]; exact one 8 0 _ (Or.inl ⟨rfl, rfl⟩)))
          · exact mk1 8 (j0 (by simp only [Int.reduceEq, if_false, if_true]; exact one 8 1 _ (Or.inl ⟨rfl, rfl⟩)))
          · exact mk1 8 (j0 (by simp only [Int.reduceEq, if_false]; exact one 8 2 _ (Or.inl ⟨rfl, rfl⟩)))
          · exact mk1 9 (j0 (by simp only [Int.reduceEq, if_false]; exact one 9 3 _ (Or.inr ⟨rfl, rfl, rfl⟩)))
          · refine mk2 7 (j0 ?_)
            simp only [Int.reduceEq, if_false]
            refine next ?_
            simp only [spec_l3Draw.j1, Int.reduceBEq, Bool.false_eq_true, Int.reduceEq, if_false, if_true, ew]
            refine Ev.bind ea (Ev.bind eb ?_)
            simp only [eta3]
            exact Ev.now _
          · refine mk2 6 (j0 ?_)
            simp only [Int.reduceEq, if_false]
            refine next ?_
            simp only [spec_l3Draw.j1, Int.reduceBEq, Bool.false_eq_true, Int.reduceEq, if_false, if_true]
            exact two 6 _ (Or.inl ⟨rfl, rfl⟩)
          · refine mk2 6 (j0 ?_)
            simp only [Int.reduceEq, if_false]
            refine next ?_
            simp only [spec_l3Draw.j1, Int.reduceBEq, Bool.false_eq_true, Int.reduceEq, if_false]
            exact two 6 _ (Or.inl ⟨rfl, rfl⟩)
          · refine mk2 5 (j0 ?_)
            simp only [if_neg (show ¬ x = 0 by omega), if_neg (show ¬ x = 1 by omega), show (x == 2) = false from beq_eq_false_iff_ne.mpr (by omega)]
            refine next ?_
            simp only [spec_l3Draw.j1, Bool.false_eq_true, if_false, if_neg (show ¬ x = 3 by omega), if_neg (show ¬ x = 4 by omega), if_neg (show ¬ x = 5 by omega), show (x == 6) = false from beq_eq_false_iff_ne.mpr (by omega)]
            exact two 5 _ (Or.inr ⟨rfl, rfl⟩)
        obtain ⟨t, i', h', he, r⟩ := all
        refine ⟨t, i', h', next ?_, r⟩
        simp only [spec_l3Draw.f, if_neg hd2, e1, Option.bind_some]
        exact he
end
theorem pc_size (b : ByteArray) (h : b ∈ [(⟨#[97]⟩ : ByteArray), (⟨#[98]⟩ : ByteArray), (⟨#[97]⟩ : ByteArray), (⟨#[98]⟩ : ByteArray), (⟨#[99]⟩ : ByteArray)]) : b.size = 1 := by
  simp only [List.mem_cons, List.not_mem_nil, or_false] at h
  rcases h with rfl | rfl | rfl | rfl | rfl <;> rfl
theorem drawWord_l0 (b : List Int) (hb : b.length ≤ 140737488351232) (n : Nat) (hn : n ≤ 6) : ∀ (d j : Nat) (s : ByteArray) (i h : Int), j + d = n → s.size ≤ j → Cur b i → ∃ r i' h', Ev (fun k => spec_l2Word.l0 k s n j b i h) (r, i', h') ∧ r.size ≤ 6 ∧ Cur b i' := by
  intro d
  induction d with
  | zero =>
    intro j s i h hj hs hc
    refine ⟨s, i, h, next ?_, by omega, hc⟩
    simp only [spec_l2Word.l0, if_neg (show ¬ (j : Int) < (n : Int) by omega)]
    exact Ev.now _
  | succ d ih =>
    intro j s i h hj hs hc
    obtain ⟨x, i1, h1, e1, m1, c1⟩ := pick b hb i h hc [(⟨#[97]⟩ : ByteArray), (⟨#[98]⟩ : ByteArray), (⟨#[97]⟩ : ByteArray), (⟨#[98]⟩ : ByteArray), (⟨#[99]⟩ : ByteArray)] (by simp) (by simp)
    have hx := pc_size x m1
    obtain ⟨r, i2, h2, e2, s2, c2⟩ := ih (j + 1) (s ++ x) i1 h1 (by omega) (by rw [ByteArray.size_append]; omega) c1
    refine ⟨r, i2, h2, next ?_, s2, c2⟩
    simp only [spec_l2Word.l0, if_pos (show (j : Int) < (n : Int) by omega), e1, Option.bind_some, if_pos (show s.size + x.size ≤ 9223372036854775807 by omega), up1 (show j < 9223372036854775807 by omega)]
    exact e2
theorem drawWord (b : List Int) (hb : b.length ≤ 140737488351232) (i h : Int) (hc : Cur b i) (a : Int) (ha : 0 ≤ a) (ha6 : a ≤ 6) : ∃ r i' h', Ev (fun k => spec_l2Word.f k b i h a) (r, i', h') ∧ r.size ≤ 6 ∧ Cur b i' := by
  obtain ⟨x, i1, h1, e1, m1, m2, c1⟩ := below b hb i h hc (a + 1) (by omega) (by omega)
  obtain ⟨n, rfl⟩ : ∃ n : Nat, x = n := ⟨x.toNat, by omega⟩
  obtain ⟨r, i2, h2, e2, s2, c2⟩ := drawWord_l0 b hb n (by omega) n 0 ⟨#[]⟩ i1 h1 (by omega) (by simp [ByteArray.size]) c1
  refine ⟨r, i2, h2, ?_, s2, c2⟩
  have ew : wrap64 (a + 1) = a + 1 := w64 (by omega) (by omega)
  simp only [spec_l2Word.f, ew, e1, Option.bind_some]
  exact e2
theorem drawAny (b : List Int) (hb : b.length ≤ 140737488351232) (i h : Int) (hc : Cur b i) : ∃ r i' h', Ev (fun k => spec_l2Any.f k b i h) (r, i', h') ∧ r.size ≤ 31 ∧ Cur b i' := by
  obtain ⟨w, i1, h1, e1, s1, c1⟩ := drawWord b hb i h hc 6 (by omega) (by omega)
  obtain ⟨x, i2, h2, e2, m2, c2⟩ := pick b hb i1 h1 c1 [(⟨#[]⟩ : ByteArray), (⟨#[97]⟩ : ByteArray), (⟨#[97, 98, 99]⟩ : ByteArray), (⟨#[99, 99]⟩ : ByteArray), (⟨#[97, 98, 100]⟩ : ByteArray), (⟨#[65]⟩ : ByteArray), (⟨#[99, 99, 99, 99, 99, 99, 99, 99, 99, 99, 99, 99, 99, 99, 99, 99, 99, 99, 99, 99, 99, 99, 99, 99, 99, 99, 99, 99, 99, 99]⟩ : ByteArray), (⟨#[97, 97, 97, 97, 97, 97, 97, 97, 97, 97, 97, 97, 97, 97, 97, 97, 97, 97, 97, 97, 97, 97, 97, 97, 97, 97, 97, 97, 97, 97, 97]⟩ : ByteArray), (⟨#[97, 99, 99]⟩ : ByteArray), w] (by simp) (by simp)
  refine ⟨x, i2, h2, ?_, ?_, c2⟩
  · simp only [spec_l2Any.f]
    refine Ev.bind e1 ?_
    simp only [e2, Option.bind_some]
    exact Ev.now _
  · simp only [List.mem_cons, List.not_mem_nil, or_false] at m2
    rcases m2 with rfl | rfl | rfl | rfl | rfl | rfl | rfl | rfl | rfl | rfl <;> first | decide | omega
theorem small_re {x : TI} {n : Nat} (h : Small x n) (k : Int) (s : ByteArray) (hs : s.size ≤ 100) : Small ⟨k, s, x.f2⟩ n := by
  obtain ⟨ht, hn⟩ := h
  cases ht with
  | mk _ h1 h2 h3 => exact ⟨Thin.mk _ h1 (by show s.size ≤ _; omega) h3, by rw [nd_eq] at hn ⊢; exact hn⟩
theorem nds_snoc (l : List TI) (y : TI) : nds (l ++ [y]) = nds l + nd y := by
  induction l with
  | nil => simp only [List.nil_append, nds]; omega
  | cons a l ih => simp only [List.cons_append, nds, ih]; omega
theorem small_snoc {x y : TI} {n : Nat} (h : Small x n) (hl : x.f2.length ≤ 2) (hy : Small y 1) : Small ⟨x.f0, x.f1, x.f2 ++ [y]⟩ (n + 1) := by
  obtain ⟨ht, hn⟩ := h
  cases ht with
  | mk _ h1 h2 h3 =>
    refine ⟨Thin.mk _ (by show (x.f2 ++ [y]).length ≤ _; rw [List.length_append, List.length_singleton]; omega) h2 (fun z hz => ?_), ?_⟩
    · rcases List.mem_append.mp hz with q | q
      · exact h3 z q
      · rw [List.mem_singleton] at q; subst q; exact hy.1
    · rw [nd_eq] at hn ⊢
      show 1 + nds (x.f2 ++ [y]) ≤ _
      rw [nds_snoc]
      have := hy.2
      omega
section
variable {b : List Int} (hb : b.length ≤ 140737488351232)
include hb
theorem bentR (i h : Int) (hi : Cur b i) : ∃ (t : TI) (i' h' : Int), Ev (fun k => spec_l3Bent.f k b i h) (t.f0, t.f1, t.f2, i', h') ∧ Small t 1000 ∧ Cur b i' := by
  obtain ⟨x, i1, h1, e1, x0, x4, c1⟩ := below b hb i h hi 4 (by omega) (by omega)
  have ew : wrap64 (1 + x) = 1 + x := w64 (by omega) (by omega)
  obtain ⟨t, i2, h2, e2, st, hl, hs, c2⟩ := draw_tree hb 3 (1 + x) i1 h1 (by omega) (by omega) (by omega) c1
  have st : Small t 900 := small_more st (by decide)
  obtain ⟨y, i3, h3, e3, y0, y10, c3⟩ := below b hb i2 h2 c2 10 (by omega) (by omega)
  have go : ∀ {v}, Ev (fun k => if y = 0 then ((spec_l1Below.f b i3 h3 11).bind fun bt906 => (some (bt906.1, t.f1, t.f2, bt906.2.1, bt906.2.2))) else (if y = 1 then ((spec_l1Pick.f b i3 h3 (([(⟨#[97]⟩ : ByteArray), (⟨#[97, 98]⟩ : ByteArray), (⟨#[100]⟩ : ByteArray), (⟨#[]⟩ : ByteArray)] : List ByteArray))).bind fun bt912 => (some (t.f0, bt912.1, t.f2, bt912.2.1, bt912.2.2))) else (if y = 2 then (if t.f2.length < 2932031007402 then (some (t.f0, t.f1, (t.f2 ++ [(⟨2, (⟨#[]⟩ : ByteArray), ([] : List TI)⟩ : TI)]), i3, h3)) else (none)) else (some (t.f0, t.f1, t.f2, i3, h3))))) v → Ev (fun k => spec_l3Bent.f k b i h) v := fun he => by
    simp only [spec_l3Bent.f, e1, Option.bind_some, ew]
    refine Ev.bind e2 ?_
    simp only [e3, Option.bind_some]
    exact he
  by_cases q0 : y = 0
  · obtain ⟨z, i4, h4, e4, _, _, c4⟩ := below b hb i3 h3 c3 11 (by omega) (by omega)
    refine ⟨⟨z, t.f1, t.f2⟩, i4, h4, go ?_, small_more (small_re st z t.f1 (by omega)) (by omega), c4⟩
    simp only [if_pos q0, e4, Option.bind_some]
    exact Ev.now _
  · by_cases q1 : y = 1
    · obtain ⟨z, i4, h4, e4, hz, c4⟩ := pick b hb i3 h3 c3 [⟨#[97]⟩, ⟨#[97, 98]⟩, ⟨#[100]⟩, ⟨#[]⟩] (by simp) (by simp)
      have hzs : z.size ≤ 2 := by
        simp only [List.mem_cons, List.not_mem_nil, or_false] at hz
        rcases hz with rfl | rfl | rfl | rfl <;> decide
      refine ⟨⟨t.f0, z, t.f2⟩, i4, h4, go ?_, small_more (small_re st t.f0 z (by omega)) (by omega), c4⟩
      simp only [if_neg q0, if_pos q1, e4, Option.bind_some]
      exact Ev.now _
    · by_cases q2 : y = 2
      · refine ⟨⟨t.f0, t.f1, t.f2 ++ [⟨2, ⟨#[]⟩, []⟩]⟩, i3, h3, go ?_, small_more (small_snoc st hl (small_leaf 2 ⟨#[]⟩ (by decide))) (by omega), c3⟩
        simp only [if_neg q0, if_neg q1, if_pos q2, if_pos (show t.f2.length < 2932031007402 by omega)]
        exact Ev.now _
      · refine ⟨t, i3, h3, go ?_, small_more st (by omega), c3⟩
        simp only [if_neg q0, if_neg q1, if_neg q2]
        exact Ev.now _
end
theorem drawDer (b : List Int) (hb : b.length ≤ 140737488351232) : ∃ (t : TI) (s : ByteArray), Ev (fun k => spec_DrawDerivativeOf.f k b) (t.f0, t.f1, t.f2, s) ∧ Small t 1000 ∧ s.size ≤ 2 := by
  obtain ⟨h, e0⟩ := new b hb
  obtain ⟨t, i1, h1, e1, st, c1⟩ := bentR hb 0 h (cur0 b)
  obtain ⟨z, i4, h4, e4, hz, c4⟩ := pick b hb i1 h1 c1 [⟨#[97]⟩, ⟨#[98]⟩, ⟨#[99]⟩, ⟨#[100]⟩, ⟨#[]⟩, ⟨#[97, 98]⟩] (by simp) (by simp)
  refine ⟨t, z, ?_, st, ?_⟩
  · simp only [spec_DrawDerivativeOf.f]
    refine Ev.bind e0 (Ev.bind e1 ?_)
    simp only [e4, Option.bind_some]
    exact Ev.now _
  · simp only [List.mem_cons, List.not_mem_nil, or_false] at hz
    rcases hz with rfl | rfl | rfl | rfl | rfl | rfl <;> decide
theorem drawMx (b : List Int) (hb : b.length ≤ 140737488351232) : ∃ (t : TI) (s : ByteArray), Ev (fun k => spec_DrawMatchRegex.f k b) (t.f0, t.f1, t.f2, s) ∧ Small t 1000 ∧ s.size ≤ 31 := by
  obtain ⟨h, e0⟩ := new b hb
  obtain ⟨x, i1, h1, e1, x0, x4, c1⟩ := below b hb 0 h (cur0 b) 4 (by omega) (by omega)
  have ew : wrap64 (1 + x) = 1 + x := w64 (by omega) (by omega)
  obtain ⟨t, i2, h2, e2, st, hl, hs, c2⟩ := draw_tree hb 3 (1 + x) i1 h1 (by omega) (by omega) (by omega) c1
  have st : Small t 900 := small_more st (by decide)
  obtain ⟨o, i3, h3, e3, c3⟩ := onceR hb i2 h2 c2 12 (by omega) (by omega)
  cases o with
  | true =>
    obtain ⟨u, i4, h4, e4, su, c4⟩ := bentR hb i3 h3 c3
    obtain ⟨s, i5, h5, e5, s5, c5⟩ := drawAny b hb i4 h4 c4
    refine ⟨u, s, ?_, su, s5⟩
    simp only [spec_DrawMatchRegex.f]
    refine Ev.bind e0 ?_
    simp only [e1, Option.bind_some, ew]
    refine Ev.bind e2 ?_
    simp only [e3, Option.bind_some, if_true]
    exact Ev.bind e4 (Ev.bind e5 (Ev.now _))
  | false =>
    obtain ⟨s, i5, h5, e5, s5, c5⟩ := drawWord b hb i3 h3 c3 5 (by omega) (by omega)
    refine ⟨t, s, ?_, small_more st (by omega), by omega⟩
    simp only [spec_DrawMatchRegex.f]
    refine Ev.bind e0 ?_
    simp only [e1, Option.bind_some, ew]
    refine Ev.bind e2 ?_
    simp only [e3, Option.bind_some, Bool.false_eq_true, if_false]
    exact Ev.bind e5 (Ev.now _)
end Go.Proofs.Ytldgkgdgcfllmaa.Pl
end
section
namespace Go.Proofs.Ytldgkgdgcfllmaa.Wu
open Go.RowKit Go.Proofs.Ytldgkgdgcfllmaa.P Go.Proofs.Ytldgkgdgcfllmaa.Pl Go.Proofs.YtldgkgdgcfllmaaW.PrintWords Go.Proofs.YtldgkgdgcfllmaaW.PrintLast Go.Proofs.YtldgkgdgcfllmaaW.PrintMore
set_option linter.unusedVariables false
set_option linter.unusedSimpArgs false
def pc (j : Nat) : ByteArray := (⟨#[97, 98, 99]⟩ : ByteArray).extract j (j + 1)
def three (w : ByteArray) : List ByteArray := [w ++ pc 0, w ++ pc 1, w ++ pc 2]
def longer (l : List ByteArray) : List ByteArray := l.flatMap three
def wordsN : Nat → List ByteArray
  | 0 => [⟨#[]⟩]
  | n + 1 => longer (wordsN n)
theorem len_longer (l : List ByteArray) : (longer l).length = 3 * l.length := by
  induction l with
  | nil => rfl
  | cons a t ih => simp only [longer, List.flatMap_cons, List.length_append, three, List.length_cons, List.length_nil] at ih ⊢; omega
theorem size_pc (j : Nat) (h : j < 3) : (pc j).size = 1 := by
  match j, h with
  | 0, _ => rfl
  | 1, _ => rfl
  | 2, _ => rfl
theorem size_longer {l : List ByteArray} {m : Nat} (h : ∀ w ∈ l, w.size = m) : ∀ w ∈ longer l, w.size = m + 1 := by
  intro w hw
  simp only [longer, List.mem_flatMap, three, List.mem_cons, List.not_mem_nil, or_false] at hw
  obtain ⟨x, hx, rfl | rfl | rfl⟩ := hw <;> simp only [ByteArray.size_append, h x hx] <;> rfl
theorem size_words (n : Nat) : ∀ w ∈ wordsN n, w.size = n := by
  induction n with
  | zero => intro w hw; simp only [wordsN, List.mem_singleton] at hw; subst hw; rfl
  | succ n ih => exact size_longer ih
theorem len_words (n : Nat) : (wordsN n).length = 3 ^ n := by
  induction n with
  | zero => rfl
  | succ n ih => rw [wordsN, len_longer, ih, Nat.pow_succ]; omega
theorem spec_words_l2 (n : Int) (l : List ByteArray) (r : Int) (i : Nat) (out : List ByteArray) (res : List ByteArray) (hi : i < l.length) (hsz : l[i].size ≤ 1000) (ho : out.length ≤ 1000000) (hll : l.length ≤ 1000000)
    (h : Ev (fun k => spec_WordsOfLength.l1 k n l r (out ++ three l[i]) ((i + 1 : Nat) : Int)) res) : Ev (fun k => spec_WordsOfLength.l2 k n l r out i 0) res := by
  have w0 : wrap64 ((0 : Int) + 1) = 1 := by unfold wrap64; omega
  have w1 : wrap64 ((1 : Int) + 1) = 2 := by unfold wrap64; omega
  have w2 : wrap64 ((2 : Int) + 1) = 3 := by unfold wrap64; omega
  have p0 : (⟨#[97, 98, 99]⟩ : ByteArray).extract (0 : Int).toNat (1 : Int).toNat = pc 0 := rfl
  have p1 : (⟨#[97, 98, 99]⟩ : ByteArray).extract (1 : Int).toNat (2 : Int).toNat = pc 1 := rfl
  have p2 : (⟨#[97, 98, 99]⟩ : ByteArray).extract (2 : Int).toNat (3 : Int).toNat = pc 2 := rfl
  refine next ?_
  simp only [spec_WordsOfLength.l2, if_pos (show (0 : Int) < 3 by omega), if_pos (show (0 : Int) ≤ i by omega), if_pos (show (i : Int) < (l.length : Int) by omega), if_pos (show (0 : Int) ≤ 0 by omega), w0, if_pos (show (0 : Int) ≤ 1 by omega), if_pos (show (1 : Int) ≤ 3 by omega), p0, rdOf_get _ l i hi, size_pc 0 (by omega), if_pos (show l[i].size + 1 ≤ 9223372036854775807 by omega), if_pos (show out.length < 8796093022208 by omega)]
  refine next ?_
  simp only [spec_WordsOfLength.l2, if_pos (show (1 : Int) < 3 by omega), if_pos (show (0 : Int) ≤ i by omega), if_pos (show (i : Int) < (l.length : Int) by omega), if_pos (show (0 : Int) ≤ 1 by omega), w1, if_pos (show (1 : Int) ≤ 2 by omega), if_pos (show (2 : Int) ≤ 3 by omega), p1, rdOf_get _ l i hi, size_pc 1 (by omega), if_pos (show l[i].size + 1 ≤ 9223372036854775807 by omega), List.length_append, List.length_cons, List.length_nil, if_pos (show out.length + (0 + 1) < 8796093022208 by omega)]
  refine next ?_
  simp only [spec_WordsOfLength.l2, if_pos (show (2 : Int) < 3 by omega), if_pos (show (0 : Int) ≤ i by omega), if_pos (show (i : Int) < (l.length : Int) by omega), if_pos (show (0 : Int) ≤ 2 by omega), w2, if_pos (show (2 : Int) ≤ 3 by omega), if_pos (show (3 : Int) ≤ 3 by omega), p2, rdOf_get _ l i hi, size_pc 2 (by omega), if_pos (show l[i].size + 1 ≤ 9223372036854775807 by omega), List.length_append, List.length_cons, List.length_nil, if_pos (show out.length + (0 + 1) + (0 + 1) < 8796093022208 by omega)]
  refine next ?_
  simp only [spec_WordsOfLength.l2, if_neg (show ¬ (3 : Int) < 3 by omega)]
  have e : out ++ [l[i] ++ pc 0] ++ [l[i] ++ pc 1] ++ [l[i] ++ pc 2] = out ++ three l[i] := by simp [three]
  rw [e]
  rw [up1 (by omega)]
  exact h
theorem spec_words_l1 (n : Int) (l : List ByteArray) (r : Int) (hsz : ∀ w ∈ l, w.size ≤ 1000) (hll : l.length ≤ 100000) (res : List ByteArray) (h : Ev (fun k => spec_WordsOfLength.l0 k n (longer l) (wrap64 (r + 1))) res) :
    ∀ (d i : Nat) (out : List ByteArray), i + d = l.length → out = longer (l.take i) → Ev (fun k => spec_WordsOfLength.l1 k n l r out i) res := by
  intro d
  induction d with
  | zero =>
    intro i out hd ho
    refine next ?_
    simp only [spec_WordsOfLength.l1, if_neg (show ¬ (i : Int) < (l.length : Int) by omega)]
    rw [ho, List.take_of_length_le (by omega)]
    exact h
  | succ d ih =>
    intro i out hd ho
    have hi : i < l.length := by omega
    refine next ?_
    simp only [spec_WordsOfLength.l1, if_pos (show (i : Int) < (l.length : Int) by omega)]
    refine spec_words_l2 n l r i out res hi (hsz _ (List.getElem_mem _)) (by rw [ho, len_longer, List.length_take]; omega) (by omega) ?_
    refine ih (i + 1) _ (by omega) ?_
    rw [ho, List.take_succ_eq_append_getElem hi]
    simp only [longer, List.flatMap_append, List.flatMap_cons, List.flatMap_nil, List.append_nil]
theorem spec_words_l0 (n : Nat) (hn : n ≤ 5) : ∀ (d i : Nat), i + d = n → Ev (fun k => spec_WordsOfLength.l0 k n (wordsN i) i) (wordsN n) := by
  intro d
  induction d with
  | zero =>
    intro i h
    refine next ?_
    simp only [spec_WordsOfLength.l0, if_neg (show ¬ (i : Int) < (n : Int) by omega)]
    have : i = n := by omega
    subst this
    exact Ev.now _
  | succ d ih =>
    intro i h
    have hlen : (wordsN i).length ≤ 100000 := by
      rw [len_words]
      have : 3 ^ i ≤ 3 ^ 5 := Nat.pow_le_pow_right (by omega) (by omega)
      omega
    refine next ?_
    simp only [spec_WordsOfLength.l0, if_pos (show (i : Int) < (n : Int) by omega)]
    refine spec_words_l1 n (wordsN i) i (fun w hw => by rw [size_words i w hw]; omega) hlen _ ?_ (wordsN i).length 0 [] (by omega) rfl
    rw [up1 (by omega)]
    exact ih (i + 1) (by omega)
theorem spec_words (n : Int) : Ev (fun k => spec_WordsOfLength.f k n) (if 0 ≤ n ∧ n ≤ 5 then wordsN n.toNat else []) := by
  simp only [spec_WordsOfLength.f, spec_l1In.f]
  by_cases h0 : 0 ≤ n
  · by_cases h5 : n ≤ 5
    · simp only [ge_iff_le, if_pos h0, Option.bind_some, h5, decide_true, if_true, h0, true_and]
      obtain ⟨m, rfl⟩ := Int.eq_ofNat_of_zero_le h0
      rw [Int.toNat_natCast]
      exact spec_words_l0 m (by omega) m 0 (by omega)
    · simp only [ge_iff_le, if_pos h0, Option.bind_some, h5, decide_false, if_neg Bool.false_ne_true, h0, true_and, if_false]
      exact Ev.now _
  · simp only [ge_iff_le, if_neg h0, Option.bind_some, h0, false_and, if_false, if_neg Bool.false_ne_true]
    exact Ev.now _
def upto : Nat → List ByteArray
  | 0 => wordsN 0
  | n + 1 => upto n ++ wordsN (n + 1)
def before : Nat → List ByteArray
  | 0 => []
  | n + 1 => upto n
theorem before_next (i : Nat) : before i ++ wordsN i = upto i := by cases i <;> rfl
theorem len_upto (n : Nat) (hn : n ≤ 5) : (upto n).length ≤ 1000 ∧ (before n).length ≤ 1000 := by
  match n, hn with
  | 0, _ => decide +kernel
  | 1, _ => decide +kernel
  | 2, _ => decide +kernel
  | 3, _ => decide +kernel
  | 4, _ => decide +kernel
  | 5, _ => decide +kernel
theorem spec_upto_l0 (n : Int) (m : Nat) (hm : (m : Int) = min n 5) : ∀ (d i : Nat), i + d = m + 1 → Ev (fun k => spec_WordsUpTo.l0 k n (before i) i) (upto m) := by
  intro d
  induction d with
  | zero =>
    intro i h
    have e : i = m + 1 := by omega
    subst e
    refine next ?_
    by_cases h1 : ((m + 1 : Nat) : Int) ≤ n
    · simp only [spec_WordsUpTo.l0, if_pos h1, if_neg (show ¬ ((m + 1 : Nat) : Int) ≤ 5 by omega)]
      exact Ev.now _
    · simp only [spec_WordsUpTo.l0, if_neg h1]
      exact Ev.now _
  | succ d ih =>
    intro i h
    refine next ?_
    simp only [spec_WordsUpTo.l0, if_pos (show (i : Int) ≤ n by omega), if_pos (show (i : Int) ≤ 5 by omega), up1 (show i < 9223372036854775807 by omega)]
    refine Ev.bind (spec_words i) ?_
    rw [if_pos (by omega), Int.toNat_natCast]
    have hl := (len_upto i (by omega)).1
    rw [← before_next, List.length_append] at hl
    simp only [if_pos (show (before i).length + (wordsN i).length < 8796093022208 by omega), before_next]
    exact ih (i + 1) (by omega)
theorem spec_upto (n : Int) : Ev (fun k => spec_WordsUpTo.f k n) (if n < 0 then [] else upto (min n 5).toNat) := by
  simp only [spec_WordsUpTo.f]
  by_cases h : n < 0
  · rw [if_pos h]
    refine next ?_
    simp only [spec_WordsUpTo.l0, if_neg (show ¬ (0 : Int) ≤ n by omega)]
    exact Ev.now _
  · rw [if_neg h]
    exact spec_upto_l0 n (min n 5).toNat (by omega) ((min n 5).toNat + 1) 0 (by omega)
end Go.Proofs.Ytldgkgdgcfllmaa.Wu
end
section
namespace Go.Proofs.Ytldgkgdgcfllmaa.Wk
open Go.RowKit Go.Shelf Go.Proofs.Ytldgkgdgcfllmaa.P Go.Proofs.Ytldgkgdgcfllmaa.Pl Go.Proofs.YtldgkgdgcfllmaaW.PrintWords Go.Proofs.YtldgkgdgcfllmaaW.PrintLast Go.Proofs.YtldgkgdgcfllmaaW.PrintMore
set_option linter.unusedVariables false
set_option linter.unusedSimpArgs false
mutual
def eqT : TI → TI → Bool
  | ⟨a, s, l⟩, ⟨b, u, m⟩ => (decide (a = b) && decide (s = u)) && eqTs l m
def eqTs : List TI → List TI → Bool
  | [], [] => true
  | x :: l, y :: m => eqT x y && eqTs l m
  | [], _ :: _ => false
  | _ :: _, [] => false
end
mutual
theorem eqT_iff : ∀ x y : TI, eqT x y = true ↔ x = y
  | ⟨a, s, l⟩, ⟨b, u, m⟩ => by
    rw [eqT, Bool.and_eq_true, Bool.and_eq_true, decide_eq_true_eq, decide_eq_true_eq, eqTs_iff l m]
    constructor
    · rintro ⟨⟨h1, h2⟩, h3⟩; rw [h1, h2, h3]
    · intro h; injection h with h1 h2 h3; exact ⟨⟨h1, h2⟩, h3⟩
theorem eqTs_iff : ∀ x y : List TI, eqTs x y = true ↔ x = y
  | [], [] => by simp [eqTs]
  | x :: l, y :: m => by rw [eqTs, Bool.and_eq_true, eqT_iff x y, eqTs_iff l m, List.cons_eq_cons]
  | [], _ :: _ => by simp [eqTs]
  | _ :: _, [] => by simp [eqTs]
end
theorem eqT_true {x y : TI} : eqT x y = true ↔ x = y := eqT_iff x y
theorem eqTs_true {x y : List TI} : eqTs x y = true ↔ x = y := eqTs_iff x y
theorem eqT_false {x y : TI} : eqT x y = false ↔ ¬ x = y := by rw [← eqT_true]; simp
theorem eqTs_false {x y : List TI} : eqTs x y = false ↔ ¬ x = y := by rw [← eqTs_true]; simp
end Go.Proofs.Ytldgkgdgcfllmaa.Wk
end
section
namespace Go.Proofs.Ytldgkgdgcfllmaa.P
open Go.RowKit Go.Proofs.YtldgkgdgcfllmaaW.PrintWords Go.Proofs.YtldgkgdgcfllmaaW.PrintLast Go.Proofs.YtldgkgdgcfllmaaW.PrintMore
attribute [local go_sem] max2_int min2_int max_two min_two max_three min_three max_four min_four
set_option linter.unusedVariables false
set_option linter.unusedSimpArgs false
end Go.Proofs.Ytldgkgdgcfllmaa.P
end
section
namespace Go.Proofs.Ytldgkgdgcfllmaa.P
open Go.RowKit Go.Proofs.YtldgkgdgcfllmaaW.PrintWords Go.Proofs.YtldgkgdgcfllmaaW.PrintLast Go.Proofs.YtldgkgdgcfllmaaW.PrintMore
attribute [local go_sem] max2_int min2_int max_two min_two max_three min_three max_four min_four
set_option linter.unusedVariables false
set_option linter.unusedSimpArgs false
end Go.Proofs.Ytldgkgdgcfllmaa.P
end
section
namespace Go.Proofs.Ytldgkgdgcfllmaa.Pl
open Go.RowKit Go.Proofs.Ytldgkgdgcfllmaa Go.Proofs.Ytldgkgdgcfllmaa.P Go.Proofs.YtldgkgdgcfllmaaW.PrintWords Go.Proofs.YtldgkgdgcfllmaaW.PrintLast Go.Proofs.YtldgkgdgcfllmaaW.PrintMore Rk Wk
set_option linter.unusedVariables false
set_option linter.unusedSimpArgs false
theorem sEq_loop (x y : TI) (hl : x.f2.length = y.f2.length) (hn : x.f2.length ≤ 1048576) (ih : ∀ z ∈ x.f2, ∀ v ∈ y.f2, Ev (fun k => spec_EqualRegex.f k z.f0 z.f1 z.f2 v.f0 v.f1 v.f2) (eqT z v)) :
    ∀ (d i : Nat), i + d = x.f2.length → Ev (fun k => spec_EqualRegex.l0 k (i : Int) x.f0 x.f1 x.f2 y.f0 y.f1 y.f2) (eqTs (x.f2.drop i) (y.f2.drop i)) := by
  intro d
  induction d with
  | zero =>
    intro i h
    refine next ?_
    simp only [spec_EqualRegex.l0, if_neg (show ¬ (i : Int) < (x.f2.length : Int) by omega)]
    refine ev_some ?_
    rw [eq_comm, eqTs_true, List.drop_eq_nil_of_le (by omega), List.drop_eq_nil_of_le (by omega)]
  | succ d ihd =>
    intro i h
    have hx : i < x.f2.length := by omega
    have hy : i < y.f2.length := by omega
    refine next ?_
    simp only [spec_EqualRegex.l0, if_pos (show (i : Int) < (x.f2.length : Int) by omega), if_pos (show (0 : Int) ≤ (i : Int) by omega), if_pos (show (i : Int) < (y.f2.length : Int) by omega), rdTI x.f2 i hx, rdTI y.f2 i hy]
    refine Ev.bind (ih _ (List.getElem_mem hx) _ (List.getElem_mem hy)) ?_
    have he : (x.f2.drop i = y.f2.drop i) ↔ (x.f2[i] = y.f2[i] ∧ x.f2.drop (i + 1) = y.f2.drop (i + 1)) := by
      rw [List.drop_eq_getElem_cons hx, List.drop_eq_getElem_cons hy]
      exact List.cons_eq_cons
    cases hq : eqT x.f2[i] y.f2[i] with
    | false =>
      simp only [Bool.false_eq_true, if_false]
      refine ev_some ?_
      rw [eqT_false] at hq
      rw [eq_comm, eqTs_false, he]
      exact fun h => hq h.1
    | true =>
      rw [eqT_true] at hq
      simp only [if_true, up1 (show i < 9223372036854775807 by omega)]
      refine ev_eq (ihd (i + 1) (by omega)) ?_
      rw [Bool.eq_iff_iff, eqTs_true, eqTs_true, he]
      exact ⟨fun h => ⟨hq, h⟩, fun h => h.2⟩
theorem sEq_tree : ∀ x : TI, Thin x → ∀ y : TI, Ev (fun k => spec_EqualRegex.f k x.f0 x.f1 x.f2 y.f0 y.f1 y.f2) (eqT x y) := by
  refine TI.ind fun x ih hx y => ?_
  obtain ⟨_, hn, _, hc⟩ := hx
  have he : x = y ↔ (x.f0 = y.f0 ∧ x.f1 = y.f1 ∧ x.f2 = y.f2) := by
    constructor
    · rintro rfl; exact ⟨rfl, rfl, rfl⟩
    · rintro ⟨h1, h2, h3⟩
      obtain ⟨x0, x1, x2⟩ := x
      obtain ⟨y0, y1, y2⟩ := y
      dsimp only at *
      rw [h1, h2, h3]
  have jt : ¬ x = y → Ev (fun k => spec_EqualRegex.j0 k true x.f0 x.f1 x.f2 y.f0 y.f1 y.f2) (eqT x y) := fun h => by
    refine next ?_
    simp only [spec_EqualRegex.j0, if_true]
    exact ev_some (eqT_false.mpr h).symm
  refine next ?_
  by_cases h1 : x.f0 = y.f0
  · by_cases h2 : x.f1.toList = y.f1.toList
    · simp only [spec_EqualRegex.f, if_pos h1, if_pos h2]
      by_cases h3 : x.f2.length = y.f2.length
      · simp only [show ((x.f2.length : Int) != (y.f2.length : Int)) = false from by rw [bne_eq_false_iff_eq]; omega]
        refine next ?_
        simp only [spec_EqualRegex.j0, Bool.false_eq_true, if_false]
        refine ev_eq (sEq_loop x y h3 hn (fun z hz v _ => ih z hz (hc z hz) v) x.f2.length 0 (by omega)) ?_
        rw [Bool.eq_iff_iff, eqTs_true, eqT_true, he, List.drop_zero, List.drop_zero]
        exact ⟨fun h => ⟨h1, toList_iff.mp h2, h⟩, fun h => h.2.2⟩
      · simp only [show ((x.f2.length : Int) != (y.f2.length : Int)) = true from by rw [bne_iff_ne]; omega]
        exact jt (fun h => h3 (by rw [h]))
    · simp only [spec_EqualRegex.f, if_pos h1, if_neg h2]
      exact jt (fun h => h2 (by rw [h]))
  · simp only [spec_EqualRegex.f, if_neg h1]
    exact jt (fun h => h1 (by rw [h]))
end Go.Proofs.Ytldgkgdgcfllmaa.Pl
end
section
namespace Go.Proofs.Ytldgkgdgcfllmaa.Pl
open Go.RowKit Go.Proofs.Ytldgkgdgcfllmaa Go.Proofs.Ytldgkgdgcfllmaa.P Go.Proofs.YtldgkgdgcfllmaaW.PrintWords Go.Proofs.YtldgkgdgcfllmaaW.PrintLast Go.Proofs.YtldgkgdgcfllmaaW.PrintMore Rk
set_option linter.unusedVariables false
set_option linter.unusedSimpArgs false
theorem tr_small : ∀ y : Rg.Rx, Rg.Lt y → Small (Rg.tr y) (Rg.sz y)
  | .none, _ => small_leaf _ _ (by decide)
  | .empty, _ => small_leaf _ _ (by decide)
  | .letter l, h => small_leaf _ _ (by have : l.size = 1 := h; omega)
  | .any, _ => small_leaf _ _ (by decide)
  | .cat x y, h => small_two _ _ (by decide) (tr_small x h.1) (tr_small y h.2)
  | .or x y, h => small_two _ _ (by decide) (tr_small x h.1) (tr_small y h.2)
  | .and x y, h => small_two _ _ (by decide) (tr_small x h.1) (tr_small y h.2)
  | .star x, h => small_one _ _ (by decide) (tr_small x h)
  | .not x, h => small_one _ _ (by decide) (tr_small x h)
theorem al_zero : validR ⟨0, ⟨#[]⟩, []⟩ = false := by
  have : al ⟨0, ⟨#[]⟩, []⟩ = false := by rw [al_eq]; simp [shp, argsN, als]
  simp [validR, this]
theorem der_both (x : TI) (hx : Thin x) (hn : nd x ≤ 2000000) (s : ByteArray) (hs : s.size ≤ 140737488351232) : ∃ d : TI, Ev (fun k => spec_DerivativeOf.f k x.f0 x.f1 x.f2 s) (d.f0, d.f1, d.f2) ∧ Ev (fun k => impl_DerivativeOf.f k x.f0 x.f1 x.f2 s) (d.f0, d.f1, d.f2) ∧ Small d 1000 ∧ (validR d = true → word s = true ∧ s.size = 1 ∧ ∃ y, x = Rg.tr y ∧ Rg.Lt y ∧ Rg.sz y ≤ 16 ∧ validR x = true ∧ d = Rg.tr (Rg.drv s y)) := by
  refine ⟨dofT s x, ?_, ?_, ?_⟩
  · obtain ⟨a, b, l⟩ := x
    simp only [spec_DerivativeOf.f]
    rw [if_pos ⟨thB_ok hx, hn, hs⟩]
    exact Ev.now _
  · obtain ⟨a, b, l⟩ := x
    simp only [impl_DerivativeOf.f]
    rw [if_pos ⟨thB_ok hx, hn, hs⟩]
    exact Ev.now _
  · by_cases hc : validR x = true ∧ s.size = 1 ∧ word s = true
    · obtain ⟨y, rfl, hl, hz⟩ := validR_tr hc.1
      have e : dofT s (Rg.tr y) = Rg.tr (Rg.drv s y) := by
        unfold dofT
        rw [if_pos hc, drT_tr s y (by omega)]
      have hq := Rg.drv_sz s y
      have hq2 : Rg.sz y * Rg.sz y ≤ 16 * 16 := Nat.mul_le_mul hz hz
      rw [e]
      exact ⟨small_more (tr_small _ (Rg.drv_lt s y hl)) (by omega), fun _ => ⟨hc.2.2, hc.2.1, y, rfl, hl, hz, hc.1, rfl⟩⟩
    · have e : dofT s x = ⟨0, ⟨#[]⟩, []⟩ := by
        unfold dofT
        rw [if_neg hc]
      rw [e]
      exact ⟨small_more (small_leaf 0 ⟨#[]⟩ (by decide)) (by omega), fun h => by rw [al_zero] at h; cases h⟩
theorem impl_match_val {y : Rg.Rx} (hx : Thin (Rg.tr y)) (hz : Rg.sz y ≤ 100) (hv : validR (Rg.tr y) = true) (s : ByteArray) (hw : word s = true) : Ev (fun k => impl_MatchRegex.f k (Rg.tr y).f0 (Rg.tr y).f1 (Rg.tr y).f2 s) (Rg.lan y (bytesOf s)) := by
  have h30 : s.size ≤ 30 := by
    simp only [word, Bool.and_eq_true, decide_eq_true_eq] at hw
    exact hw.2
  have hm : Rg.matchF ⟨(Rg.tr y).f0, (Rg.tr y).f1, (Rg.tr y).f2⟩ s = some (Rg.lan y (bytesOf s)) := Rg.matchF_ax (r := Rg.tr y) (Rg.ax_tr y) hz (by omega)
  simp only [impl_MatchRegex.f]
  refine Ev.bind (impl_validR _ hx) ?_
  simp only [hv, if_true]
  refine Ev.bind (impl_word s (by omega)) ?_
  simp only [hw, if_true]
  simp only [impl_matches.f, hm, Option.bind_some]
  exact Ev.now _
theorem two_words : ∀ w ∈ Wu.upto 2, word w = true ∧ w.size ≤ 2 := by
  have h : (Wu.upto 2).all (fun w => word w && decide (w.size ≤ 2)) = true := by decide +kernel
  intro w hw
  have := List.all_eq_true.mp h w hw
  simpa using this
theorem word_app {s w : ByteArray} (hs : word s = true) (h1 : s.size = 1) (hw : word w = true) (h2 : w.size ≤ 2) : word (s ++ w) = true := by
  simp only [word, Bool.and_eq_true, decide_eq_true_eq] at hs hw ⊢
  refine ⟨?_, by rw [ByteArray.size_append]; omega⟩
  have : bytesOf (s ++ w) = bytesOf s ++ bytesOf w := by simp [bytesOf]
  rw [this]
  simp only [lets, List.all_append, Bool.and_eq_true]
  exact ⟨hs.1, hw.1⟩
end Go.Proofs.Ytldgkgdgcfllmaa.Pl
end
section
namespace Go.Proofs.Ytldgkgdgcfllmaa.Pl
open Go.RowKit Go.Proofs.Ytldgkgdgcfllmaa Go.Proofs.Ytldgkgdgcfllmaa.P Go.Proofs.YtldgkgdgcfllmaaW.PrintWords Go.Proofs.YtldgkgdgcfllmaaW.PrintLast Go.Proofs.YtldgkgdgcfllmaaW.PrintMore Rk
set_option linter.unusedVariables false
set_option linter.unusedSimpArgs false
theorem der_loop (x d : TI) (s : ByteArray) (ws : List ByteArray) (hl : ws.length ≤ 1000) (hws : ∀ w ∈ ws, word w = true ∧ w.size ≤ 2) (hx : Thin x) (hd : Small d 1000)
    (hv : validR d = true → word s = true ∧ s.size = 1 ∧ ∃ y, x = Rg.tr y ∧ Rg.Lt y ∧ Rg.sz y ≤ 16 ∧ validR x = true ∧ d = Rg.tr (Rg.drv s y)) :
    ∀ e i : Nat, i + e = ws.length → Ev (fun k => laws_FnDerivatives.l0 k s ws (i : Int) x.f0 x.f1 x.f2 d.f0 d.f1 d.f2) true := by
  intro e
  induction e with
  | zero =>
    intro i hi
    refine next ?_
    simp only [laws_FnDerivatives.l0, if_neg (show ¬ (i : Int) < (ws.length : Int) by omega)]
    refine next ?_
    simp only [laws_FnDerivatives.j2, Bool.false_eq_true, if_false]
    exact Ev.now _
  | succ e ih =>
    intro i hi
    have hlt : i < ws.length := by omega
    refine next ?_
    simp only [laws_FnDerivatives.l0, if_pos (show (i : Int) < (ws.length : Int) by omega)]
    refine Ev.bind (spec_validR d hd.1 (by have := hd.2; omega)) ?_
    by_cases hvd : validR d = true
    · obtain ⟨hw, h1, y, rfl, hlt2, hz, hvx, hde⟩ := hv hvd
      obtain ⟨z, hz1, _, hz2⟩ := validR_tr hvd
      have hzz : Rg.drv s y = z := by
        have ha := Rg.ax_tr (Rg.drv s y)
        have hb := Rg.ax_tr z
        rw [← hde] at ha
        rw [← hz1] at hb
        exact Rg.ax_uniq ha hb
      obtain ⟨hwi, hwi2⟩ := hws ws[i] (List.getElem_mem _)
      have m1 : Ev (fun k => impl_MatchRegex.f k d.f0 d.f1 d.f2 ws[i]) (Rg.lan z (bytesOf ws[i])) := by
        have := impl_match_val (y := z) (by rw [← hz1]; exact hd.1) (by omega) (by rw [← hz1]; exact hvd) ws[i] hwi
        rw [← hz1] at this
        exact this
      have m2 := impl_match_val (y := y) hx (by omega) hvx (s ++ ws[i]) (word_app hw h1 hwi hwi2)
      obtain ⟨b, hb⟩ := Rg.bytes_one h1
      have heq : Rg.lan z (bytesOf ws[i]) = Rg.lan y (bytesOf (s ++ ws[i])) := by
        rw [← hzz, Rg.lan_drv s b hb y _ hlt2]
        have : bytesOf (s ++ ws[i]) = bytesOf s ++ bytesOf ws[i] := by simp [bytesOf]
        rw [this, hb]
        rfl
      simp only [hvd]
      refine next ?_
      simp only [laws_FnDerivatives.j2, if_true, if_pos (show (0 : Int) ≤ (i : Int) by omega), if_pos (show (i : Int) < (ws.length : Int) by omega), rdOf_get _ ws i hlt]
      refine Ev.bind m1 ?_
      simp only [if_pos (show s.size + ws[i].size ≤ 9223372036854775807 by omega)]
      refine Ev.bind m2 ?_
      simp only [heq, bne_self_eq_false, Bool.false_eq_true, if_false, up1 (show i < 9223372036854775807 by omega)]
      exact ih (i + 1) (by omega)
    · have hvd : validR d = false := by simpa using hvd
      simp only [hvd]
      refine next ?_
      simp only [laws_FnDerivatives.j2, Bool.false_eq_true, if_false]
      exact Ev.now _
theorem pureFnDerivatives : laws_FnDerivatives.Pure := by
  intro l h1 h2 h3
  have hl : l.length ≤ 140737488351232 := by omega
  refine Ev.rounds ?_
  simp only [laws_FnDerivatives.f, laws_big.f, Option.bind_some]
  by_cases hbig : (l.length : Int) > 1048576
  · simp only [decide_eq_true hbig, if_true]
    exact Ev.now _
  · simp only [decide_eq_false hbig, Bool.false_eq_true, if_false]
    obtain ⟨x, s, e0, sx, hs⟩ := drawDer l hl
    obtain ⟨d, e1, e2, sd, hv⟩ := der_both x sx.1 (by have := sx.2; omega) s (by omega)
    obtain ⟨b, m1, m2⟩ := match_both x sx.1 (by have := sx.2; omega) ⟨#[]⟩ (by decide)
    obtain ⟨u, w, e3, su, hw⟩ := drawMx l hl
    obtain ⟨b2, m3, m4⟩ := match_both u su.1 (by have := su.2; omega) w (by omega)
    refine Ev.bind e0 (Ev.bind e2 (Ev.bind e1 ?_))
    refine Ev.bind (sEq_tree d sd.1 d) ?_
    simp only [(Wk.eqT_iff d d).mpr rfl, if_true]
    have hnull : Ev (fun k => impl_IsNullable.f k x.f0 x.f1 x.f2) b := by
      simp only [impl_IsNullable.f]
      exact Ev.bind m2 (Ev.now _)
    refine Ev.bind hnull (Ev.bind m2 ?_)
    simp only [bne_self_eq_false]
    refine next ?_
    simp only [laws_FnDerivatives.j0, Bool.false_eq_true, if_false]
    refine Ev.bind e3 (Ev.bind m4 (Ev.bind m3 ?_))
    simp only [bne_self_eq_false, Bool.false_eq_true, if_false]
    have hu := Wu.spec_upto 2
    simp only [if_neg (show ¬ (2 : Int) < 0 by omega), show (min (2 : Int) 5).toNat = 2 from rfl] at hu
    refine Ev.bind hu ?_
    have hlen := Wu.len_upto 2 (by omega)
    exact der_loop x d s (Wu.upto 2) hlen.1 two_words sx.1 sd hv (Wu.upto 2).length 0 (by omega)
end Go.Proofs.Ytldgkgdgcfllmaa.Pl
end
section
namespace Go.Proofs.Ytldgkgdgcfllmaa.Pure
open Go.Proofs.Ytldgkgdgcfllmaa.P
theorem FnDerivatives : laws_FnDerivatives.Pure := Pl.pureFnDerivatives
end Go.Proofs.Ytldgkgdgcfllmaa.Pure
end
section
namespace Go.Proofs.YtldgkgdgcfllmaaW.PrintWords
open Go.ChangeShapes Go.WideShapes
theorem sized_ints {H : Type} {enc : TypeId × Value → H} {P : Program} {W : World} {base : Nat} {spare : Nat → Bool} {held : Bool} {t e : TypeId} {k : IntKind} {a : Option Addr} {len cap : Nat} {d : DataW H} {ps : List MemPlace} {ts : List TypeId} {ds : List (DataW H)} {j : Nat}
    (hsz : (DataW.weightsEach P ts ds).all (· ≤ reachBytes) = true) (ht : ts[j]? = some t) (hd : ds[j]? = some d) (hu : P.underlying t = some (.slice e)) (he : P.underlying e = some (.int k)) (hc : P.cellsOf e = 1) {B : Nat} (hB : P.bytesOf e = B)
    (h : DataW.Trod enc P W base spare held t (.slice a len cap) d ps) : len * B ≤ 140737488351232 := by
  obtain ⟨fuel, hf⟩ := h
  rcases open_ints hu he hc hf with ⟨hcs, _⟩ | ⟨x, l, c, zs, hcs, _, hl, _, hz, hx, _, _⟩
  · simp [Value.cells] at hcs
    obtain ⟨rfl, rfl, rfl⟩ := hcs
    simp
  · simp [Value.cells] at hcs
    obtain ⟨rfl, rfl, rfl⟩ := hcs
    obtain ⟨hx, _⟩ := Prod.mk.inj hx
    subst hx
    have z := sized_slice hsz ht hd hu
    rw [hB] at z
    have hl2 : len ≤ zs.length := by
      rw [hz]
      split
      · exact hl
      · exact Nat.le_refl _
    have h1 : (lits (H := H) k (zs.take len)).length + (lits (H := H) k (zs.drop len)).length = zs.length := by
      simp [lits]
      omega
    rw [h1] at z
    exact Nat.le_trans (Nat.mul_le_mul_right _ hl2) z
end Go.Proofs.YtldgkgdgcfllmaaW.PrintWords
end
section
namespace Go.Proofs.Ytldgkgdgcfllmaa.fnDerivatives
open Go.ChangeShapes Go.WideShapes Go.ChangeAt Go.RowKit
open Go.ChangeMaps (open_string shut_string)
set_option linter.unusedVariables false
theorem own : ownKnob Try.prog.godebug = none := by kernel_rfl
theorem laidOut : laidOutB Try.prog = true := by kernel_rfl
def IsRow (k : IntKind) (w : World) (a : Option Addr) (len cap : Nat) (zs : List Int) : Prop :=
  (a = none ∧ len = 0 ∧ cap = 0 ∧ zs = []) ∨
  ∃ x, a = some x ∧ len ≤ cap ∧ cap ≤ maxLen ∧ zs.length = cap ∧ (∀ i, i < zs.length → w.cell? (x.add i) = some (.int k (zs.getD i 0))) ∧ ∀ n ∈ zs, (Lit.int k n).wf = true
set_option maxRecDepth 100000 in
theorem lifted (os : Os) (started : os.Started) (H : Type) (enc : TypeId × Value → H) :
    ReturnsInHanded {} Try.checked os 11 .any (Rows.fnDerivativesSpec.pre6 enc Try.prog Try.f11 Rows.fnDerivativesRow.domain false) (Rows.fnDerivativesSpec.post enc Try.prog Try.f11 false true false false) := by
  refine returnsInHanded_of_change_sized (C := Try.checked) own started (by kernel_rfl) Try.func11
    (ChangeSpec.witness6 (enc := enc) (C := Try.checked) false ⟨#[], #[.slice none 0 0], []⟩ 8 (by kernel_rfl) (by kernel_rfl) (by kernel_rfl) (by kernel_rfl)) ?_
  intro W base args ds gs before hval0 hW hcnd hsz0 _
  have hsz : (DataW.weightsEach Try.prog (Try.f11.params.toList ++ Rows.fnDerivativesSpec.plain.varTypes Try.prog) (ds ++ gs)).all (· ≤ reachBytes) = true := hsz0
  have hval : ∀ (j : Nat) t v, Try.f11.params[j]? = some t → args[j]? = some v → Value.okWide Try.prog W .any base t v := hval0
  have hW' := hW
  obtain ⟨p, q, hA0, hV, rfl, hfz, hnd⟩ := hW
  have hA : DataW.TrodAll enc Try.prog W 0 (fun _ => true) true Try.f11.params.toList args.toList ds p := hA0
  rw [Try.params11] at hA hval hsz
  obtain ⟨v0, vs0, d0, ds0, p0, q0, hargs, rfl, rfl, h0, r0⟩ := trodAll_cons hA
  obtain ⟨rfl, rfl, rfl⟩ := trodAll_nil r0
  obtain rfl : args = #[v0] := by cases args; simp_all
  obtain ⟨rfl, rfl⟩ := trodVars_none hV
  obtain ⟨a0, len0, cap0, rfl⟩ := okWide_slice Try.underlying42 (hval 0 42 v0 rfl rfl)
  have k0 := h0
  have lt0 : ∀ x ∈ p0, x.block < W.heap.size := by obtain ⟨m, hm⟩ := k0; exact DataW.trod_lt m _ _ _ hm
  obtain ⟨z0, w0⟩ : ∃ zs, IsRow .u8 W a0 len0 cap0 zs := by
    obtain ⟨fuel, hf⟩ := h0
    rcases open_ints Try.underlying42 Try.underlying5 (by kernel_rfl) hf with ⟨hcs, _⟩ | ⟨x, l, c, zs, hcs, _, hl, hm, hz, _, hcell, hwz⟩
    · simp [Value.cells] at hcs
      obtain ⟨rfl, rfl, rfl⟩ := hcs
      exact ⟨[], .inl ⟨rfl, rfl, rfl, rfl⟩⟩
    · simp [Value.cells] at hcs
      obtain ⟨rfl, rfl, rfl⟩ := hcs
      exact ⟨zs, .inr ⟨_, rfl, hl, hm, by simpa using hz, hcell, hwz⟩⟩
  have y0 : len0 * 1 ≤ 140737488351232 := Go.Proofs.YtldgkgdgcfllmaaW.PrintWords.sized_ints hsz (j := 0) (t := 42) rfl rfl Try.underlying42 Try.underlying5 (by kernel_rfl) (by kernel_rfl) h0
  clear hA0 hval0 hsz0 hsz
  refine (P.laws_FnDerivatives.walk Pure.FnDerivatives a0 len0 cap0 z0 W w0 y0).mono fun e W' ⟨he, bel⟩ => ?_
  subst he
  exact ⟨_, rfl, _, _, _, [], _, [], hW', trodAll_mk1 (shut_bool Try.underlying4 _), (trodAll_cons_mk (Below.trod laidOut (by kernel_rfl) (of_decide_eq_true (by kernel_rfl)) k0 bel lt0) trodAll_mk0), rfl, bel.frame _, fun h => by cases h⟩
theorem over : Rows.fnDerivativesRow.holds Try.pinned (OpenSpec.ofChange Rows.fnDerivativesSpec) :=
  OpenClaim.holds_of_wide 11 Try.f11 rfl rfl rfl rfl rfl rfl rfl ⟨rfl, rfl, rfl, rfl, rfl⟩ rfl rfl rfl rfl rfl (by kernel_rfl) Try.func11 (by kernel_rfl)
    (of_decide_eq_true (by kernel_rfl)) (by unfold Func.isWrapper; first | (rw [if_pos (by decide +kernel)]; kernel_rfl) | (rw [if_neg (by decide +kernel)]; exact ⟨rfl, rfl⟩))
    (fun os started H enc _ => lifted os started H enc)
theorem proved : Rows.FnDerivativesSaid := over
#print axioms proved
end Go.Proofs.Ytldgkgdgcfllmaa.fnDerivatives
namespace Go.Proofs.Ytldgkgdgcfllmaa
theorem fnDerivatives_holds : Rows.FnDerivativesSaid := fnDerivatives.proved
end Go.Proofs.Ytldgkgdgcfllmaa
end
