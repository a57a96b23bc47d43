/- The law FnRegexText holds for every input. No condition. -/
import Derived.Test.YtldgkgdgcfllmaaQFnRegexText3
import Derived.Test.YtldgkgdgcfllmaaQFnRegexText12
import Derived.Test.YtldgkgdgcfllmaaQFnRegexText14
import Derived.Test.YtldgkgdgcfllmaaQFnRegexText15
import Derived.Test.YtldgkgdgcfllmaaQFnRegexText13
import Derived.Test.YtldgkgdgcfllmaaQFnRegexText2
import Derived.Test.YtldgkgdgcfllmaaQFnRegexText8
import Derived.Test.YtldgkgdgcfllmaaQFnRegexText11
import Derived.Test.YtldgkgdgcfllmaaQFnRegexText9
import Derived.Test.YtldgkgdgcfllmaaQFnRegexText16
import Derived.SizedLaws
import Derived.ChangeSlices
import Derived.Test.YtldgkgdgcfllmaaRows
import Derived.WalkKit
import Derived.ProofKit
import Derived.OpenShut
import Derived.ShutString
import Derived.ChangeOld
import Derived.Below
section
namespace Go.Proofs.Ytldgkgdgcfllmaa.P
open Go.RowKit Go.Proofs.YtldgkgdgcfllmaaW.PrintWords Go.Proofs.YtldgkgdgcfllmaaW.PrintLast Go.Proofs.YtldgkgdgcfllmaaW.PrintMore
attribute [local go_sem] max2_int min2_int max_two min_two max_three min_three max_four min_four
set_option linter.unusedVariables false
set_option linter.unusedSimpArgs false
end Go.Proofs.Ytldgkgdgcfllmaa.P
end
section
namespace Go.Proofs.Ytldgkgdgcfllmaa.P
open Go.RowKit Go.Proofs.YtldgkgdgcfllmaaW.PrintWords Go.Proofs.YtldgkgdgcfllmaaW.PrintLast Go.Proofs.YtldgkgdgcfllmaaW.PrintMore
attribute [local go_sem] max2_int min2_int max_two min_two max_three min_three max_four min_four
set_option linter.unusedVariables false
set_option linter.unusedSimpArgs false
end Go.Proofs.Ytldgkgdgcfllmaa.P
end
section
namespace Go.Proofs.Ytldgkgdgcfllmaa.Pl
open Go.RowKit Go.Proofs.Ytldgkgdgcfllmaa.P Go.Proofs.YtldgkgdgcfllmaaW.PrintWords Go.Proofs.YtldgkgdgcfllmaaW.PrintLast Go.Proofs.YtldgkgdgcfllmaaW.PrintMore Rk
set_option linter.unusedVariables false
set_option linter.unusedSimpArgs false
theorem new_l0 (b : List Int) (hb : b.length ≤ 140737488351232) : ∀ (d i : Nat) (h : Int), i + d = b.length → ∃ r, Ev (fun k => spec_l1New.l0 k b h i) (b, 0, r) := by
  intro d
  induction d with
  | zero =>
    intro i h e
    refine ⟨h, next ?_⟩
    simp only [spec_l1New.l0, if_neg (show ¬ (i : Int) < (b.length : Int) by omega)]
    exact Ev.now _
  | succ d ih =>
    intro i h e
    by_cases hi : (i : Int) < 4000
    · obtain ⟨r, hr⟩ := ih (i + 1) (Go.bits .and .i64 (wrap64 ((wrap64 ((wrap64 (h * 131)) + (wrap64 (rd b i)))) + 7)) 1073741823) (by omega)
      refine ⟨r, next ?_⟩
      simp only [spec_l1New.l0, if_pos (show (i : Int) < (b.length : Int) by omega), if_pos hi, if_pos (show (0 : Int) ≤ i by omega), up1 (show i < 9223372036854775807 by omega)]
      exact hr
    · refine ⟨h, next ?_⟩
      simp only [spec_l1New.l0, if_pos (show (i : Int) < (b.length : Int) by omega), if_neg hi]
      exact Ev.now _
theorem new (b : List Int) (hb : b.length ≤ 140737488351232) : ∃ r, Ev (fun k => spec_l1New.f k b) (b, 0, r) := by
  simp only [spec_l1New.f]
  exact new_l0 b hb b.length 0 _ (by omega)
theorem and255 (x : Int) : 0 ≤ Go.bits .and .i64 x 255 ∧ Go.bits .and .i64 x 255 ≤ 255 := by
  have h : (BitVec.ofInt 64 x &&& BitVec.ofInt 64 255).toNat ≤ 255 := by
    rw [BitVec.toNat_and]
    exact Nat.and_le_right
  have e : Go.bits .and .i64 x 255 = ((BitVec.ofInt 64 x &&& BitVec.ofInt 64 255).toNat : Int) := by
    show IntKind.i64.wrap ((BitVec.ofInt 64 x &&& BitVec.ofInt 64 255).toNat : Int) = _
    rw [IntKind.wrap_i64]
    omega
  omega
def Cur (b : List Int) (i : Int) : Prop := 0 ≤ i ∧ i ≤ b.length
theorem byte (b : List Int) (hb : b.length ≤ 140737488351232) (i h : Int) (hi : Cur b i) : ∃ x i' h', spec_l1Byte.f b i h = some (x, i', h') ∧ 0 ≤ x ∧ x ≤ 255 ∧ Cur b i' := by
  unfold Cur at hi ⊢
  by_cases hl : i < (b.length : Int)
  · unfold spec_l1Byte.f
    rw [if_pos hl, if_pos hi.1, w64 (show -9223372036854775808 ≤ i + 1 by omega) (by omega)]
    exact ⟨_, _, _, rfl, (and255 _).1, (and255 _).2, by omega, by omega⟩
  · unfold spec_l1Byte.f
    rw [if_neg hl]
    exact ⟨_, _, _, rfl, (and255 _).1, (and255 _).2, by omega, by omega⟩
theorem below (b : List Int) (hb : b.length ≤ 140737488351232) (i h : Int) (hi : Cur b i) (n : Int) (hn : 0 < n) (hn2 : n ≤ 256) : ∃ x i' h', spec_l1Below.f b i h n = some (x, i', h') ∧ 0 ≤ x ∧ x < n ∧ Cur b i' := by
  obtain ⟨x, i', h', e, hx, hx2, hc⟩ := byte b hb i h hi
  refine ⟨x % n, i', h', ?_, by exact Int.emod_nonneg _ (by omega), Int.emod_lt_of_pos _ hn, hc⟩
  simp only [spec_l1Below.f, if_neg (show ¬ n ≤ 0 by omega), if_pos hn2, e, Option.bind_some, if_neg (show ¬ n = 0 by omega), Int.tmod_eq_emod_of_nonneg hx]
theorem pick (b : List Int) (hb : b.length ≤ 140737488351232) (i h : Int) (hi : Cur b i) (l : List ByteArray) (hn : 0 < l.length) (hn2 : l.length ≤ 256) : ∃ x i' h', spec_l1Pick.f b i h l = some (x, i', h') ∧ x ∈ l ∧ Cur b i' := by
  obtain ⟨x, i', h', e, hx, hx2, hc⟩ := below b hb i h hi l.length (by omega) (by omega)
  obtain ⟨m, rfl⟩ : ∃ m : Nat, x = m := ⟨x.toNat, by omega⟩
  refine ⟨l[m]'(by omega), i', h', ?_, List.getElem_mem _, hc⟩
  simp only [spec_l1Pick.f, e, Option.bind_some, if_pos hx, if_pos hx2, rdOf_get _ l m (by omega)]
theorem cur0 (b : List Int) : Cur b 0 := ⟨by omega, by omega⟩
def Small (x : TI) (n : Nat) : Prop := Thin x ∧ nd x ≤ n
theorem small_leaf (k : Int) (s : ByteArray) (hs : s.size ≤ 100) : Small ⟨k, s, []⟩ 1 := ⟨Thin.mk _ (by simp) (by show s.size ≤ _; omega) (fun y hy => by simp at hy), by rw [nd_eq, nds]; omega⟩
theorem small_one {a : TI} {n : Nat} (k : Int) (s : ByteArray) (hs : s.size ≤ 100) (h : Small a n) : Small ⟨k, s, [a]⟩ (1 + n) := ⟨Thin.mk _ (by simp) (by show s.size ≤ _; omega) (fun y hy => by
    rw [List.mem_singleton] at hy; subst hy; exact h.1), by rw [nd_eq]; simp only [nds]; have := h.2; omega⟩
theorem small_two {a b : TI} {n m : Nat} (k : Int) (s : ByteArray) (hs : s.size ≤ 100) (h : Small a n) (h2 : Small b m) : Small ⟨k, s, [a, b]⟩ (1 + n + m) := ⟨Thin.mk _ (by simp) (by show s.size ≤ _; omega) (fun y hy => by
    rcases List.mem_cons.mp hy with rfl | hy
    · exact h.1
    · rw [List.mem_singleton] at hy; subst hy; exact h2.1), by rw [nd_eq]; simp only [nds]; have := h.2; have := h2.2; omega⟩
theorem eta3 (a : TI) : (⟨a.f0, a.f1, a.f2⟩ : TI) = a := by cases a; rfl
def mostN : Nat → Nat
  | 0 => 1
  | n + 1 => 1 + 2 * mostN n
theorem mostN_pos (n : Nat) : 1 ≤ mostN n := by cases n <;> simp [mostN]
theorem small_more {x : TI} {n m : Nat} (h : Small x n) (hm : n ≤ m) : Small x m := ⟨h.1, Nat.le_trans h.2 hm⟩
section
variable {b : List Int} (hb : b.length ≤ 140737488351232)
include hb
theorem onceR (i h : Int) (hi : Cur b i) (n : Int) (hn : 0 < n) (hn2 : n ≤ 256) : ∃ x i' h', spec_l1Once.f b i h n = some (x, i', h') ∧ Cur b i' := by
  obtain ⟨x, i', h', e, _, _, hc⟩ := below b hb i h hi n hn hn2
  exact ⟨x == 0, i', h', by simp only [spec_l1Once.f, e, Option.bind_some], hc⟩
theorem draw_leaf (i h : Int) (hi : Cur b i) (d : Int) : ∃ (t : TI) (i' h' : Int), Ev (fun k => spec_l3Draw.j0 k d true b i h) (t.f0, t.f1, t.f2, i', h') ∧ Small t 1 ∧ t.f2.length ≤ 2 ∧ t.f1.size ≤ 2 ∧ Cur b i' := by
  obtain ⟨x, i1, h1, e1, x0, x8, c1⟩ := below b hb i h hi 8 (by omega) (by omega)
  by_cases q0 : x = 0
  · subst q0
    refine ⟨⟨2, ⟨#[]⟩, []⟩, i1, h1, next ?_, small_leaf _ _ (by decide), by simp, by decide, c1⟩
    simp only [spec_l3Draw.j0, if_true, e1, Option.bind_some]
    exact Ev.now _
  · by_cases q1 : x = 1
    · subst q1
      refine ⟨⟨4, ⟨#[]⟩, []⟩, i1, h1, next ?_, small_leaf _ _ (by decide), by simp, by decide, c1⟩
      simp only [spec_l3Draw.j0, if_true, e1, Option.bind_some, Int.reduceEq, if_false]
      exact Ev.now _
    · by_cases q2 : x = 2
      · subst q2
        refine ⟨⟨1, ⟨#[]⟩, []⟩, i1, h1, next ?_, small_leaf _ _ (by decide), by simp, by decide, c1⟩
        simp only [spec_l3Draw.j0, if_true, e1, Option.bind_some, Int.reduceEq, if_false]
        exact Ev.now _
      · obtain ⟨s, i2, h2, e2, hs, c2⟩ := pick b hb i1 h1 c1 [⟨#[97]⟩, ⟨#[97]⟩, ⟨#[98]⟩, ⟨#[98]⟩, ⟨#[99]⟩] (by simp) (by simp)
        have hsz : s.size ≤ 2 := by
          simp only [List.mem_cons, List.not_mem_nil, or_false] at hs
          rcases hs with rfl | rfl | rfl | rfl | rfl <;> decide
        refine ⟨⟨3, s, []⟩, i2, h2, next ?_, small_leaf _ _ (by omega), by simp, hsz, c2⟩
        simp only [spec_l3Draw.j0, if_true, e1, Option.bind_some, if_neg q0, if_neg q1, if_neg q2, e2]
        exact Ev.now _
theorem draw_tree : ∀ (n : Nat) (d : Int) (i h : Int), d ≤ (n : Int) + 1 → 0 ≤ d → n ≤ 10 → Cur b i → ∃ (t : TI) (i' h' : Int), Ev (fun k => spec_l3Draw.f k b i h d) (t.f0, t.f1, t.f2, i', h') ∧ Small t (mostN n) ∧ t.f2.length ≤ 2 ∧ t.f1.size ≤ 2 ∧ Cur b i' := by
  intro n
  induction n with
  | zero =>
    intro d i h hd hd0 hn hi
    obtain ⟨t, i', h', he, hs, h2, h3, hc⟩ := draw_leaf hb i h hi d
    refine ⟨t, i', h', next ?_, hs, h2, h3, hc⟩
    simp only [spec_l3Draw.f, if_pos (show d < 2 by omega)]
    exact he
  | succ n ih =>
    intro d i h hd hd0 hn hi
    by_cases hd2 : d < 2
    · obtain ⟨t, i', h', he, hs, h2, h3, hc⟩ := draw_leaf hb i h hi d
      refine ⟨t, i', h', next ?_, small_more hs (mostN_pos _), h2, h3, hc⟩
      simp only [spec_l3Draw.f, if_pos hd2]
      exact he
    · obtain ⟨o, i1, h1, e1, c1⟩ := onceR hb i h hi 5 (by omega) (by omega)
      cases o with
      | true =>
        obtain ⟨t, i', h', he, hs, h2, h3, hc⟩ := draw_leaf hb i1 h1 c1 d
        refine ⟨t, i', h', next ?_, small_more hs (mostN_pos _), h2, h3, hc⟩
        simp only [spec_l3Draw.f, if_neg hd2, e1, Option.bind_some]
        exact he
      | false =>
        obtain ⟨x, i2, h2, e2, x0, x10, c2⟩ := below b hb i1 h1 c1 10 (by omega) (by omega)
        have ew : wrap64 (d - 1) = d - 1 := w64 (by omega) (by omega)
        obtain ⟨ta, ia, ha, ea, sa, _, _, ca⟩ := ih (d - 1) i2 h2 (by omega) (by omega) (by omega) c2
        obtain ⟨tb, ib, hb2, eb, sb, _, _, cb⟩ := ih (d - 1) ia ha (by omega) (by omega) (by omega) ca
        have hm : mostN (n + 1) = 1 + 2 * mostN n := rfl
        have one : ∀ (k : Int) (y : Int) (b0 : Bool), (b0 = true ∧ k = 8) ∨ (b0 = false ∧ y = 3 ∧ k = 9) → Ev (fun q => spec_l3Draw.j1 q d y b0 b i2 h2) (k, ⟨#[]⟩, [ta], ia, ha) := fun k y b0 hk => by
          rcases hk with ⟨rfl, rfl⟩ | ⟨rfl, rfl, rfl⟩
          · refine next ?_
            simp only [spec_l3Draw.j1, if_true, ew]
            refine Ev.bind ea ?_
            simp only [eta3]
            exact Ev.now _
          · refine next ?_
            simp only [spec_l3Draw.j1, Bool.false_eq_true, if_false, if_true, ew]
            refine Ev.bind ea ?_
            simp only [eta3]
            exact Ev.now _
        have two : ∀ (k : Int) (b0 : Bool), (b0 = true ∧ k = 6) ∨ (b0 = false ∧ k = 5) → Ev (fun q => spec_l3Draw.j2 q d b0 b i2 h2) (k, ⟨#[]⟩, [ta, tb], ib, hb2) := fun k b0 hk => by
          rcases hk with ⟨rfl, rfl⟩ | ⟨rfl, rfl⟩
          · refine next ?_
            simp only [spec_l3Draw.j2, if_true, ew]
            refine Ev.bind ea (Ev.bind eb ?_)
            simp only [eta3]
            exact Ev.now _
          · refine next ?_
            simp only [spec_l3Draw.j2, Bool.false_eq_true, if_false, ew]
            refine Ev.bind ea (Ev.bind eb ?_)
            simp only [eta3]
            exact Ev.now _
        have all : ∃ (t : TI) (i' h' : Int), Ev (fun k => spec_l3Draw.j0 k d false b i1 h1) (t.f0, t.f1, t.f2, i', h') ∧ Small t (mostN (n + 1)) ∧ t.f2.length ≤ 2 ∧ t.f1.size ≤ 2 ∧ Cur b i' := by
          have mk1 : ∀ k : Int, (Ev (fun q => spec_l3Draw.j0 q d false b i1 h1) (k, ⟨#[]⟩, [ta], ia, ha)) → ∃ (t : TI) (i' h' : Int), Ev (fun k => spec_l3Draw.j0 k d false b i1 h1) (t.f0, t.f1, t.f2, i', h') ∧ Small t (mostN (n + 1)) ∧ t.f2.length ≤ 2 ∧ t.f1.size ≤ 2 ∧ Cur b i' := fun k he =>
            ⟨⟨k, ⟨#[]⟩, [ta]⟩, ia, ha, he, small_more (small_one k ⟨#[]⟩ (by decide) sa) (by have := mostN_pos (n := n); omega), by simp, by show (0 : Nat) ≤ 2; omega, ca⟩
          have mk2 : ∀ k : Int, (Ev (fun q => spec_l3Draw.j0 q d false b i1 h1) (k, ⟨#[]⟩, [ta, tb], ib, hb2)) → ∃ (t : TI) (i' h' : Int), Ev (fun k => spec_l3Draw.j0 k d false b i1 h1) (t.f0, t.f1, t.f2, i', h') ∧ Small t (mostN (n + 1)) ∧ t.f2.length ≤ 2 ∧ t.f1.size ≤ 2 ∧ Cur b i' := fun k he =>
            ⟨⟨k, ⟨#[]⟩, [ta, tb]⟩, ib, hb2, he, small_more (small_two k ⟨#[]⟩ (by decide) sa sb) (by omega), by simp, by show (0 : Nat) ≤ 2; omega, cb⟩
          have j0 : ∀ {v}, Ev (fun q => if x = 0 then (spec_l3Draw.j1 q d x (x == 0) b i2 h2) else (if x = 1 then (spec_l3Draw.j1 q d x (x == 1) b i2 h2) else (spec_l3Draw.j1 q d x (x == 2) b i2 h2))) v → Ev (fun q => spec_l3Draw.j0 q d false b i1 h1) v := fun he => by
            refine next ?_
            simp only [spec_l3Draw.j0, Bool.false_eq_true, if_false, e2, Option.bind_some]
            exact he
          rcases (show x = 0 ∨ x = 1 ∨ x = 2 ∨ x = 3 ∨ x = 4 ∨ x = 5 ∨ x = 6 ∨ 7 ≤ x by omega) with rfl | rfl | rfl | rfl | rfl | rfl | rfl | h7
          · exact mk1 8 (j0 (by simp only [if_true]; exact one 8 0 _ (Or.inl ⟨rfl, rfl⟩)))
          · exact mk1 8 (j0 (by simp only [Int.reduceEq, if_false, if_true]; exact one 8 1 _ (Or.inl ⟨rfl, rfl⟩)))
          · exact mk1 8 (j0 (by simp only [Int.reduceEq, if_false]; exact one 8 2 _ (Or.inl ⟨rfl, rfl⟩)))
          · exact mk1 9 (j0 (by simp only [Int.reduceEq, if_false]; exact one 9 3 _ (Or.inr ⟨rfl, rfl, rfl⟩)))
          · refine mk2 7 (j0 ?_)
            simp only [Int.reduceEq, if_false]
            refine next ?_
            simp only [spec_l3Draw.j1, Int.reduceBEq, Bool.false_eq_true, Int.reduceEq, if_false, if_true, ew]
            refine Ev.bind ea (Ev.bind eb ?_)
            simp only [eta3]
            exact Ev.now _
          · refine mk2 6 (j0 ?_)
            simp only [Int.reduceEq, if_false]
            refine next ?_
            simp only [spec_l3Draw.j1, Int.reduceBEq, Bool.false_eq_true, Int.reduceEq, if_false, if_true]
            exact two 6 _ (Or.inl ⟨rfl, rfl⟩)
          · refine mk2 6 (j0 ?_)
            simp only [Int.reduceEq, if_false]
            refine next ?_
            simp only [spec_l3Draw.j1, Int.reduceBEq, Bool.false_eq_true, Int.reduceEq, if_false]
            exact two 6 _ (Or.inl ⟨rfl, rfl⟩)
          · refine mk2 5 (j0 ?_)
            simp only [if_neg (show ¬ x = 0 by omega), if_neg (show ¬ x = 1 by omega), show (x == 2) = false from beq_eq_false_iff_ne.mpr (by omega)]
            refine next ?_
            simp only [spec_l3Draw.j1, Bool.false_eq_true, if_false, if_neg (show ¬ x = 3 by omega), if_neg (show ¬ x = 4 by omega), if_neg (show ¬ x = 5 by omega), show (x == 6) = false from beq_eq_false_iff_ne.mpr (by omega)]
            exact two 5 _ (Or.inr ⟨rfl, rfl⟩)
        obtain ⟨t, i', h', he, r⟩ := all
        refine ⟨t, i', h', next ?_, r⟩
        simp only [spec_l3Draw.f, if_neg hd2, e1, Option.bind_some]
        exact he
end
theorem small_re {x : TI} {n : Nat} (h : Small x n) (k : Int) (s : ByteArray) (hs : s.size ≤ 100) : Small ⟨k, s, x.f2⟩ n := by
  obtain ⟨ht, hn⟩ := h
  cases ht with
  | mk _ h1 h2 h3 => exact ⟨Thin.mk _ h1 (by show s.size ≤ _; omega) h3, by rw [nd_eq] at hn ⊢; exact hn⟩
theorem nds_snoc (l : List TI) (y : TI) : nds (l ++ [y]) = nds l + nd y := by
  induction l with
  | nil => simp only [List.nil_append, nds]; omega
  | cons a l ih => simp only [List.cons_append, nds, ih]; omega
theorem small_snoc {x y : TI} {n : Nat} (h : Small x n) (hl : x.f2.length ≤ 2) (hy : Small y 1) : Small ⟨x.f0, x.f1, x.f2 ++ [y]⟩ (n + 1) := by
  obtain ⟨ht, hn⟩ := h
  cases ht with
  | mk _ h1 h2 h3 =>
    refine ⟨Thin.mk _ (by show (x.f2 ++ [y]).length ≤ _; rw [List.length_append, List.length_singleton]; omega) h2 (fun z hz => ?_), ?_⟩
    · rcases List.mem_append.mp hz with q | q
      · exact h3 z q
      · rw [List.mem_singleton] at q; subst q; exact hy.1
    · rw [nd_eq] at hn ⊢
      show 1 + nds (x.f2 ++ [y]) ≤ _
      rw [nds_snoc]
      have := hy.2
      omega
section
variable {b : List Int} (hb : b.length ≤ 140737488351232)
include hb
theorem bentR (i h : Int) (hi : Cur b i) : ∃ (t : TI) (i' h' : Int), Ev (fun k => spec_l3Bent.f k b i h) (t.f0, t.f1, t.f2, i', h') ∧ Small t 1000 ∧ Cur b i' := by
  obtain ⟨x, i1, h1, e1, x0, x4, c1⟩ := below b hb i h hi 4 (by omega) (by omega)
  have ew : wrap64 (1 + x) = 1 + x := w64 (by omega) (by omega)
  obtain ⟨t, i2, h2, e2, st, hl, hs, c2⟩ := draw_tree hb 3 (1 + x) i1 h1 (by omega) (by omega) (by omega) c1
  have st : Small t 900 := small_more st (by decide)
  obtain ⟨y, i3, h3, e3, y0, y10, c3⟩ := below b hb i2 h2 c2 10 (by omega) (by omega)
  have go : ∀ {v}, Ev (fun k => if y = 0 then ((spec_l1Below.f b i3 h3 11).bind fun bt906 => (some (bt906.1, t.f1, t.f2, bt906.2.1, bt906.2.2))) else (if y = 1 then ((spec_l1Pick.f b i3 h3 (([(⟨#[97]⟩ : ByteArray), (⟨#[97, 98]⟩ : ByteArray), (⟨#[100]⟩ : ByteArray), (⟨#[]⟩ : ByteArray)] : List ByteArray))).bind fun bt912 => (some (t.f0, bt912.1, t.f2, bt912.2.1, bt912.2.2))) else (if y = 2 then (if t.f2.length < 2932031007402 then (some (t.f0, t.f1, (t.f2 ++ [(⟨2, (⟨#[]⟩ : ByteArray), ([] : List TI)⟩ : TI)]), i3, h3)) else (none)) else (some (t.f0, t.f1, t.f2, i3, h3))))) v → Ev (fun k => spec_l3Bent.f k b i h) v := fun he => by
    simp only [spec_l3Bent.f, e1, Option.bind_some, ew]
    refine Ev.bind e2 ?_
    simp only [e3, Option.bind_some]
    exact he
  by_cases q0 : y = 0
  · obtain ⟨z, i4, h4, e4, _, _, c4⟩ := below b hb i3 h3 c3 11 (by omega) (by omega)
    refine ⟨⟨z, t.f1, t.f2⟩, i4, h4, go ?_, small_more (small_re st z t.f1 (by omega)) (by omega), c4⟩
    simp only [if_pos q0, e4, Option.bind_some]
    exact Ev.now _
  · by_cases q1 : y = 1
    · obtain ⟨z, i4, h4, e4, hz, c4⟩ := pick b hb i3 h3 c3 [⟨#[97]⟩, ⟨#[97, 98]⟩, ⟨#[100]⟩, ⟨#[]⟩] (by simp) (by simp)
      have hzs : z.size ≤ 2 := by
        simp only [List.mem_cons, List.not_mem_nil, or_false] at hz
        rcases hz with rfl | rfl | rfl | rfl <;> decide
      refine ⟨⟨t.f0, z, t.f2⟩, i4, h4, go ?_, small_more (small_re st t.f0 z (by omega)) (by omega), c4⟩
      simp only [if_neg q0, if_pos q1, e4, Option.bind_some]
      exact Ev.now _
    · by_cases q2 : y = 2
      · refine ⟨⟨t.f0, t.f1, t.f2 ++ [⟨2, ⟨#[]⟩, []⟩]⟩, i3, h3, go ?_, small_more (small_snoc st hl (small_leaf 2 ⟨#[]⟩ (by decide))) (by omega), c3⟩
        simp only [if_neg q0, if_neg q1, if_pos q2, if_pos (show t.f2.length < 2932031007402 by omega)]
        exact Ev.now _
      · refine ⟨t, i3, h3, go ?_, small_more st (by omega), c3⟩
        simp only [if_neg q0, if_neg q1, if_neg q2]
        exact Ev.now _
end
end Go.Proofs.Ytldgkgdgcfllmaa.Pl
end
section
namespace Go.Proofs.Ytldgkgdgcfllmaa.Rg
open Go.RowKit Go.Proofs.Ytldgkgdgcfllmaa Go.Proofs.Ytldgkgdgcfllmaa.P Go.Proofs.Ytldgkgdgcfllmaa.Pl Go.Proofs.Ytldgkgdgcfllmaa.Rk Go.Proofs.YtldgkgdgcfllmaaW.PrintWords Go.Proofs.YtldgkgdgcfllmaaW.PrintLast Go.Proofs.YtldgkgdgcfllmaaW.PrintMore
set_option linter.unusedVariables false
set_option linter.unusedSimpArgs false
theorem tr_small3 : ∀ y : Rx, Lt y → Pl.Small (tr y) (sz y)
  | .none, _ => Pl.small_leaf _ _ (by decide)
  | .empty, _ => Pl.small_leaf _ _ (by decide)
  | .letter l, h => Pl.small_leaf _ _ (by have : l.size = 1 := h; omega)
  | .any, _ => Pl.small_leaf _ _ (by decide)
  | .cat x y, h => Pl.small_two _ _ (by decide) (tr_small3 x h.1) (tr_small3 y h.2)
  | .or x y, h => Pl.small_two _ _ (by decide) (tr_small3 x h.1) (tr_small3 y h.2)
  | .and x y, h => Pl.small_two _ _ (by decide) (tr_small3 x h.1) (tr_small3 y h.2)
  | .star x, h => Pl.small_one _ _ (by decide) (tr_small3 x h)
  | .not x, h => Pl.small_one _ _ (by decide) (tr_small3 x h)
theorem letter_one {l : ByteArray} (h1 : l.size = 1) (h2 : Pl.word l = true) : ∃ b, bytesOf l = [b] ∧ (b = 97 ∨ b = 98 ∨ b = 99) ∧ one1 b = l := by
  obtain ⟨b, hb⟩ := bytes_one h1
  simp only [Pl.word, Pl.lets, hb, List.all_cons, List.all_nil, Bool.and_true, Bool.and_eq_true, decide_eq_true_eq] at h2
  have h3 : b = 97 ∨ b = 98 ∨ b = 99 := by
    have h := h2.1
    unfold letIdx at h
    by_cases a : b = 97
    · exact Or.inl a
    · by_cases a2 : b = 98
      · exact Or.inr (Or.inl a2)
      · by_cases a3 : b = 99
        · exact Or.inr (Or.inr a3)
        · rw [if_neg a, if_neg a2, if_neg a3] at h; exact absurd h (by decide)
  refine ⟨b, hb, h3, bytes_inj ?_⟩
  rw [hb]
  rcases h3 with rfl | rfl | rfl <;> rfl
theorem al_two {k : Int} {s : ByteArray} {a b : Tr} (h : Pl.al ⟨k, s, [a, b]⟩ = true) : Pl.al a = true ∧ Pl.al b = true := by
  rw [Pl.al_eq, Bool.and_eq_true] at h
  have := h.1
  simp only [Pl.als, Bool.and_true, Bool.and_eq_true] at this
  exact this
theorem al_one {k : Int} {s : ByteArray} {a : Tr} (h : Pl.al ⟨k, s, [a]⟩ = true) : Pl.al a = true := by
  rw [Pl.al_eq, Bool.and_eq_true] at h
  have := h.1
  simpa only [Pl.als, Bool.and_true] using this
theorem txt_head : ∀ y : Rx, Pl.al (tr y) = true → ∃ c r, bytesOf (Pl.txt (tr y)) = c :: r ∧ c ≠ 124 ∧ c ≠ 38
  | .none, _ => ⟨48, [], rfl, by decide, by decide⟩
  | .empty, _ => ⟨49, [], rfl, by decide, by decide⟩
  | .any, _ => ⟨46, [], rfl, by decide, by decide⟩
  | .letter l, h => by
    rw [Pl.al_eq, Bool.and_eq_true] at h
    have h := h.2
    simp only [Pl.shp, tr, if_true, Bool.and_eq_true] at h
    obtain ⟨b, hb, h3, -⟩ := letter_one (of_decide_eq_true h.2.1) h.2.2
    exact ⟨b, [], hb, by rcases h3 with rfl | rfl | rfl <;> decide, by rcases h3 with rfl | rfl | rfl <;> decide⟩
  | .star x, _ => ⟨42, _, txt_un 8 42 _ (Or.inl ⟨rfl, rfl⟩), by decide, by decide⟩
  | .not x, _ => ⟨33, _, txt_un 9 33 _ (Or.inr ⟨rfl, rfl⟩), by decide, by decide⟩
  | .cat x y, _ => ⟨40, _, txt_bin 5 _ _ (Or.inl rfl), by decide, by decide⟩
  | .or x y, _ => ⟨40, _, txt_bin 6 _ _ (Or.inr (Or.inl rfl)), by decide, by decide⟩
  | .and x y, _ => ⟨40, _, txt_bin 7 _ _ (Or.inr (Or.inr rfl)), by decide, by decide⟩
theorem dp_two {k : Int} {s : ByteArray} {a b : Tr} {d : Nat} (h : Pl.dp ⟨k, s, [a, b]⟩ ≤ d) : ∃ e, d = e + 1 ∧ Pl.dp a ≤ e ∧ Pl.dp b ≤ e := by
  simp only [Pl.dp, Pl.dps] at h
  exact ⟨d - 1, by omega, by omega, by omega⟩
theorem dp_one {k : Int} {s : ByteArray} {a : Tr} {d : Nat} (h : Pl.dp ⟨k, s, [a]⟩ ≤ d) : ∃ e, d = e + 1 ∧ Pl.dp a ≤ e := by
  simp only [Pl.dp, Pl.dps] at h
  exact ⟨d - 1, by omega, by omega⟩
theorem dp_leaf {x : Tr} {d : Nat} (h : Pl.dp x ≤ d) : ∃ e, d = e + 1 := ⟨d - 1, by have := Pl.dp_pos x; omega⟩
theorem pN_bin {e : Nat} {k : Int} {x y : Rx} {t : List Int} (hk : k = 5 ∨ k = 6 ∨ k = 7) (hy : Pl.al (tr y) = true)
    (h1 : ∀ t, pN e (bytesOf (Pl.txt (tr x)) ++ t) = some (x, t)) (h2 : ∀ t, pN e (bytesOf (Pl.txt (tr y)) ++ t) = some (y, t)) :
    pN (e + 1) (bytesOf (Pl.txt ⟨k, ⟨#[]⟩, [tr x, tr y]⟩) ++ t) = some (op2 k x y, t) := by
  rw [txt_bin k _ _ hk]
  have e0 : (40 :: (bytesOf (Pl.txt (tr x)) ++ bytesOf (Pl.sgn k) ++ bytesOf (Pl.txt (tr y)) ++ [41]) ++ t : List Int) = 40 :: (bytesOf (Pl.txt (tr x)) ++ (bytesOf (Pl.sgn k) ++ (bytesOf (Pl.txt (tr y)) ++ (41 :: t)))) := by
    simp [List.append_assoc]
  rw [e0]
  have e1 : ∀ l, pN (e + 1) (40 :: l) = (pN e l).bind fun x => (pN e (sgn x.2).2).bind fun y => match y.2 with
      | c :: r => if c = 41 then some (op2 (sgn x.2).1 x.1 y.1, r) else none
      | [] => none := fun l => by first | (simp [pN]; done) | (simp [pN]; rfl)
  rw [e1, h1]
  have es : sgn (bytesOf (Pl.sgn k) ++ (bytesOf (Pl.txt (tr y)) ++ (41 :: t))) = (k, bytesOf (Pl.txt (tr y)) ++ (41 :: t)) := by
    rcases hk with rfl | rfl | rfl
    · obtain ⟨c, r, hc, n1, n2⟩ := txt_head y hy
      rw [hc]
      show sgn (c :: (r ++ 41 :: t)) = (5, c :: (r ++ 41 :: t))
      simp [sgn, n1, n2]
    · rfl
    · rfl
  show (pN e (sgn (bytesOf (Pl.sgn k) ++ (bytesOf (Pl.txt (tr y)) ++ (41 :: t)))).2).bind _ = _
  rw [es]
  show (pN e (bytesOf (Pl.txt (tr y)) ++ (41 :: t))).bind _ = _
  rw [h2]
  rfl
theorem pN_txt : ∀ (x : Rx) (d : Nat) (t : List Int), Pl.al (tr x) = true → Pl.dp (tr x) ≤ d → pN d (bytesOf (Pl.txt (tr x)) ++ t) = some (x, t)
  | .none, d, t, _, h => by obtain ⟨e, rfl⟩ := dp_leaf h; rfl
  | .empty, d, t, _, h => by obtain ⟨e, rfl⟩ := dp_leaf h; rfl
  | .any, d, t, _, h => by obtain ⟨e, rfl⟩ := dp_leaf h; rfl
  | .letter l, d, t, ha, h => by
    obtain ⟨e, rfl⟩ := dp_leaf h
    rw [Pl.al_eq, Bool.and_eq_true] at ha
    have ha := ha.2
    simp only [Pl.shp, tr, if_true, Bool.and_eq_true] at ha
    obtain ⟨b, hb, h3, ho⟩ := letter_one (of_decide_eq_true ha.2.1) ha.2.2
    have e2 : bytesOf (Pl.txt (tr (.letter l))) = [b] := hb
    rw [e2]
    show pN (e + 1) (b :: t) = some (.letter l, t)
    rw [← ho]
    rcases h3 with rfl | rfl | rfl <;> rfl
  | .star x, d, t, ha, h => by
    obtain ⟨e, rfl, h1⟩ := dp_one h
    have i := pN_txt x e t (al_one ha) h1
    have e2 : bytesOf (Pl.txt (tr (.star x))) = 42 :: bytesOf (Pl.txt (tr x)) := txt_un 8 42 _ (Or.inl ⟨rfl, rfl⟩)
    rw [e2]
    have e3 : pN (e + 1) (42 :: (bytesOf (Pl.txt (tr x)) ++ t)) = (pN e (bytesOf (Pl.txt (tr x)) ++ t)).map fun x => (.star x.1, x.2) := by simp [pN]
    show pN (e + 1) (42 :: (bytesOf (Pl.txt (tr x)) ++ t)) = _
    rw [e3, i]
    rfl
  | .not x, d, t, ha, h => by
    obtain ⟨e, rfl, h1⟩ := dp_one h
    have i := pN_txt x e t (al_one ha) h1
    have e2 : bytesOf (Pl.txt (tr (.not x))) = 33 :: bytesOf (Pl.txt (tr x)) := txt_un 9 33 _ (Or.inr ⟨rfl, rfl⟩)
    rw [e2]
    have e3 : pN (e + 1) (33 :: (bytesOf (Pl.txt (tr x)) ++ t)) = (pN e (bytesOf (Pl.txt (tr x)) ++ t)).map fun x => (.not x.1, x.2) := by simp [pN]
    show pN (e + 1) (33 :: (bytesOf (Pl.txt (tr x)) ++ t)) = _
    rw [e3, i]
    rfl
  | .cat x y, d, t, ha, h => by
    obtain ⟨e, rfl, h1, h2⟩ := dp_two h
    have a := al_two ha
    exact pN_bin (k := 5) (Or.inl rfl) a.2 (fun t => pN_txt x e t a.1 h1) (fun t => pN_txt y e t a.2 h2)
  | .or x y, d, t, ha, h => by
    obtain ⟨e, rfl, h1, h2⟩ := dp_two h
    have a := al_two ha
    exact pN_bin (k := 6) (Or.inr (Or.inl rfl)) a.2 (fun t => pN_txt x e t a.1 h1) (fun t => pN_txt y e t a.2 h2)
  | .and x y, d, t, ha, h => by
    obtain ⟨e, rfl, h1, h2⟩ := dp_two h
    have a := al_two ha
    exact pN_bin (k := 7) (Or.inr (Or.inr rfl)) a.2 (fun t => pN_txt x e t a.1 h1) (fun t => pN_txt y e t a.2 h2)
theorem prR_fmt (r : Tr) : (prR (Pl.fmtR r)).1 = Pl.validR r ∧ (Pl.validR r = true → (prR (Pl.fmtR r)).2 = r) := by
  by_cases h : Pl.validR r = true
  · obtain ⟨x, rfl, -, -⟩ := Pl.validR_tr h
    have ha := Pl.validR_al h
    have e := pN_txt x 6 [] ha.1 ha.2.2
    rw [List.append_nil] at e
    have e2 : prR (Pl.fmtR (tr x)) = (true, tr x) := by
      rw [Pl.fmtR, if_pos h]
      simp only [prR, e, if_pos h]
    rw [e2, h]
    exact ⟨rfl, fun _ => rfl⟩
  · have h2 : Pl.validR r = false := by simpa using h
    rw [Pl.fmtR, if_neg h, h2]
    exact ⟨rfl, fun e => Bool.noConfusion e⟩
theorem fmt_prR (s : ByteArray) (h : (prR s).1 = true) : Pl.fmtR (prR s).2 = s ∧ Pl.Thin (prR s).2 ∧ Pl.nd (prR s).2 ≤ 16 := by
  cases hp : pN 6 (bytesOf s) with
  | none => simp only [prR, hp] at h; cases h
  | some x =>
    obtain ⟨x, l⟩ := x
    cases l with
    | cons c l => simp only [prR, hp] at h; cases h
    | nil =>
      by_cases hv : Pl.validR (tr x) = true
      · have e : prR s = (true, tr x) := by simp only [prR, hp, if_pos hv]
        rw [e]
        obtain ⟨h1, h2, h3⟩ := pN_ok 6 _ _ hp
        refine ⟨?_, (tr_small3 x h1).1, (Pl.validR_al hv).2.1⟩
        rw [Pl.fmtR, if_pos hv]
        exact bytes_inj (by have : bytesOf (Pl.txt (tr x)) ++ [] = bytesOf s := h3; rw [← this, List.append_nil])
      · simp only [prR, hp, if_neg hv] at h; cases h
end Go.Proofs.Ytldgkgdgcfllmaa.Rg
namespace Go.Proofs.Ytldgkgdgcfllmaa.Pl
open Go.RowKit Go.Proofs.Ytldgkgdgcfllmaa Go.Proofs.Ytldgkgdgcfllmaa.P Go.Proofs.YtldgkgdgcfllmaaW.PrintWords Go.Proofs.YtldgkgdgcfllmaaW.PrintLast Go.Proofs.YtldgkgdgcfllmaaW.PrintMore Rk
theorem fmt_size (r : TI) (h : nd r ≤ 1000) : (fmtR r).size ≤ 48 := by
  unfold fmtR
  split
  · rename_i hv
    have ha := validR_al hv
    have := txt_size r ha.1
    omega
  · decide
theorem drawFmt (b : List Int) (hb : b.length ≤ 140737488351232) : ∃ t : TI, Ev (fun k => spec_DrawFormatRegex.f k b) (t.f0, t.f1, t.f2) ∧ Small t 1000 := by
  obtain ⟨h, e0⟩ := new b hb
  obtain ⟨t, i1, h1, e1, st, c1⟩ := bentR hb 0 h (cur0 b)
  refine ⟨t, ?_, st⟩
  simp only [spec_DrawFormatRegex.f]
  exact Ev.bind e0 (Ev.bind e1 (Ev.now _))
theorem turned (b : List Int) (hb : b.length ≤ 140737488351232) (i h : Int) (hc : Cur b i) (s : ByteArray) (hs : s.size ≤ 48) (l : List ByteArray) (hl : 0 < l.length) (hl2 : l.length ≤ 256) (hx : ∀ x ∈ l, x.size ≤ 1) : ∃ r i' h', spec_l1Turned.f b i h s l = some (r, i', h') ∧ r.size ≤ 100 := by
  have ew : wrap64 ((s.size : Int) + 1) = (s.size : Int) + 1 := w64 (by omega) (by omega)
  obtain ⟨x, i1, h1, e1, x0, x4, c1⟩ := below b hb i h hc ((s.size : Int) + 1) (by omega) (by omega)
  obtain ⟨y, i2, h2, e2, y0, y4, c2⟩ := below b hb i1 h1 c1 6 (by omega) (by omega)
  obtain ⟨z, i3, h3, e3, hz, c3⟩ := pick b hb i2 h2 c2 l hl hl2
  have hz := hx z hz
  have s1 : (s.extract 0 x.toNat).size ≤ 48 := by rw [ByteArray.size_extract]; omega
  have s2 : (s.extract x.toNat s.size).size ≤ 48 := by rw [ByteArray.size_extract]; omega
  have s3 : ((s.extract 0 x.toNat) ++ z).size ≤ 49 := by rw [ByteArray.size_append]; omega
  simp only [spec_l1Turned.f, ew, e1, e2, e3, Option.bind_some]
  by_cases q0 : y = 0
  · rw [if_pos q0, if_pos x0, if_pos (by omega), if_pos (by omega), if_pos (by omega)]
    exact ⟨_, _, _, rfl, by rw [ByteArray.size_append]; omega⟩
  · rw [if_neg q0]
    by_cases q1 : y = 1
    · rw [if_pos q1, if_pos x0, if_pos (by omega)]
      exact ⟨_, _, _, rfl, by omega⟩
    · rw [if_neg q1]
      exact ⟨_, _, _, rfl, by omega⟩
theorem drawTxt (b : List Int) (hb : b.length ≤ 140737488351232) : ∃ s : ByteArray, Ev (fun k => spec_DrawParseRegex.f k b) s ∧ s.size ≤ 100 := by
  obtain ⟨h, e0⟩ := new b hb
  obtain ⟨t, i1, h1, e1, st, c1⟩ := bentR hb 0 h (cur0 b)
  obtain ⟨r, i2, h2, e2, hr⟩ := turned b hb i1 h1 c1 (fmtR t) (fmt_size t st.2) [⟨#[40]⟩, ⟨#[41]⟩, ⟨#[42]⟩, ⟨#[124]⟩, ⟨#[97]⟩, ⟨#[49]⟩, ⟨#[33]⟩, ⟨#[32]⟩] (by simp) (by simp) (fun x hx => by
    simp only [List.mem_cons, List.not_mem_nil, or_false] at hx
    rcases hx with rfl | rfl | rfl | rfl | rfl | rfl | rfl | rfl <;> decide)
  refine ⟨r, ?_, hr⟩
  simp only [spec_DrawParseRegex.f]
  refine Ev.bind e0 (Ev.bind e1 (Ev.bind (spec_fmt t st.1 (by have := st.2; omega)) ?_))
  simp only [e2, Option.bind_some]
  exact Ev.now _
theorem pureFnRegexText : laws_FnRegexText.Pure := by
  intro l h1 h2 h3
  have hl : l.length ≤ 140737488351232 := by omega
  refine Ev.rounds ?_
  simp only [laws_FnRegexText.f, laws_big.f, Option.bind_some]
  by_cases hbig : (l.length : Int) > 1048576
  · simp only [decide_eq_true hbig, if_true]
    exact Ev.now _
  · simp only [decide_eq_false hbig, Bool.false_eq_true, if_false]
    obtain ⟨r, e0, sr⟩ := drawFmt l hl
    obtain ⟨t, e1, st⟩ := drawTxt l hl
    have hn : nd r ≤ 2000000 := by have := sr.2; omega
    have hf := fmt_size r sr.2
    have p1 : impl_ParseRegex.f (fmtR r) = some ((Rg.prR (fmtR r)).2.f0, (Rg.prR (fmtR r)).2.f1, (Rg.prR (fmtR r)).2.f2, (Rg.prR (fmtR r)).1) := if_pos (by omega)
    have p2 : impl_ParseRegex.f t = some ((Rg.prR t).2.f0, (Rg.prR t).2.f1, (Rg.prR t).2.f2, (Rg.prR t).1) := if_pos (by omega)
    have p3 : spec_ParseRegex.f t = some ((Rg.prR t).2.f0, (Rg.prR t).2.f1, (Rg.prR t).2.f2, (Rg.prR t).1) := if_pos (by omega)
    have hj : Ev (fun k => laws_FnRegexText.j0 k l false) true := by
      refine next ?_
      simp only [laws_FnRegexText.j0, Bool.false_eq_true, if_false]
      refine Ev.bind e1 ?_
      simp only [p2, p3, Option.bind_some, beq_self_eq_true, if_true]
      by_cases hok : (Rg.prR t).1 = true
      · simp only [if_pos hok]
        obtain ⟨g1, g2, g3⟩ := Rg.fmt_prR t hok
        refine Ev.bind (impl_fmt (Rg.prR t).2 g2 (by omega)) ?_
        rw [g1]
        simp only [beq_self_eq_true]
        exact Ev.now _
      · simp only [if_neg hok]
        exact Ev.now _
    obtain ⟨v1, v2⟩ := Rg.prR_fmt r
    refine Ev.bind e0 (Ev.bind (impl_fmt r sr.1 hn) ?_)
    simp only [p1, Option.bind_some]
    refine Ev.bind (spec_fmt r sr.1 hn) ?_
    simp only [if_true]
    refine Ev.bind (spec_validR r sr.1 hn) ?_
    simp only [v1, bne_self_eq_false, Bool.false_eq_true, if_false]
    refine Ev.bind (impl_validR r sr.1) ?_
    simp only [bne_self_eq_false, Bool.false_eq_true, if_false]
    by_cases hv : validR r = true
    · simp only [if_pos hv]
      simp only [impl_EqualRegex.f, Option.bind_some, v2 hv, (Wk.eqT_iff _ _).mpr rfl, Bool.not_true]
      exact hj
    · simp only [if_neg hv]
      exact hj
end Go.Proofs.Ytldgkgdgcfllmaa.Pl
end
section
namespace Go.Proofs.Ytldgkgdgcfllmaa.Pure
open Go.Proofs.Ytldgkgdgcfllmaa.P
theorem FnRegexText : laws_FnRegexText.Pure := Pl.pureFnRegexText
end Go.Proofs.Ytldgkgdgcfllmaa.Pure
end
section
namespace Go.Proofs.YtldgkgdgcfllmaaW.PrintWords
open Go.ChangeShapes Go.WideShapes
theorem sized_ints {H : Type} {enc : TypeId × Value → H} {P : Program} {W : World} {base : Nat} {spare : Nat → Bool} {held : Bool} {t e : TypeId} {k : IntKind} {a : Option Addr} {len cap : Nat} {d : DataW H} {ps : List MemPlace} {ts : List TypeId} {ds : List (DataW H)} {j : Nat}
    (hsz : (DataW.weightsEach P ts ds).all (· ≤ reachBytes) = true) (ht : ts[j]? = some t) (hd : ds[j]? = some d) (hu : P.underlying t = some (.slice e)) (he : P.underlying e = some (.int k)) (hc : P.cellsOf e = 1) {B : Nat} (hB : P.bytesOf e = B)
    (h : DataW.Trod enc P W base spare held t (.slice a len cap) d ps) : len * B ≤ 140737488351232 := by
  obtain ⟨fuel, hf⟩ := h
  rcases open_ints hu he hc hf with ⟨hcs, _⟩ | ⟨x, l, c, zs, hcs, _, hl, _, hz, hx, _, _⟩
  · simp [Value.cells] at hcs
    obtain ⟨rfl, rfl, rfl⟩ := hcs
    simp
  · simp [Value.cells] at hcs
    obtain ⟨rfl, rfl, rfl⟩ := hcs
    obtain ⟨hx, _⟩ := Prod.mk.inj hx
    subst hx
    have z := sized_slice hsz ht hd hu
    rw [hB] at z
    have hl2 : len ≤ zs.length := by
      rw [hz]
      split
      · exact hl
      · exact Nat.le_refl _
    have h1 : (lits (H := H) k (zs.take len)).length + (lits (H := H) k (zs.drop len)).length = zs.length := by
      simp [lits]
      omega
    rw [h1] at z
    exact Nat.le_trans (Nat.mul_le_mul_right _ hl2) z
end Go.Proofs.YtldgkgdgcfllmaaW.PrintWords
end
section
namespace Go.Proofs.Ytldgkgdgcfllmaa.fnRegexText
open Go.ChangeShapes Go.WideShapes Go.ChangeAt Go.RowKit
open Go.ChangeMaps (open_string shut_string)
set_option linter.unusedVariables false
theorem own : ownKnob Try.prog.godebug = none := by kernel_rfl
theorem laidOut : laidOutB Try.prog = true := by kernel_rfl
def IsRow (k : IntKind) (w : World) (a : Option Addr) (len cap : Nat) (zs : List Int) : Prop :=
  (a = none ∧ len = 0 ∧ cap = 0 ∧ zs = []) ∨
  ∃ x, a = some x ∧ len ≤ cap ∧ cap ≤ maxLen ∧ zs.length = cap ∧ (∀ i, i < zs.length → w.cell? (x.add i) = some (.int k (zs.getD i 0))) ∧ ∀ n ∈ zs, (Lit.int k n).wf = true
set_option maxRecDepth 100000 in
theorem lifted (os : Os) (started : os.Started) (H : Type) (enc : TypeId × Value → H) :
    ReturnsInHanded {} Try.checked os 10 .any (Rows.fnRegexTextSpec.pre6 enc Try.prog Try.f10 Rows.fnRegexTextRow.domain false) (Rows.fnRegexTextSpec.post enc Try.prog Try.f10 false true false false) := by
  refine returnsInHanded_of_change_sized (C := Try.checked) own started (by kernel_rfl) Try.func10
    (ChangeSpec.witness6 (enc := enc) (C := Try.checked) false ⟨#[], #[.slice none 0 0], []⟩ 8 (by kernel_rfl) (by kernel_rfl) (by kernel_rfl) (by kernel_rfl)) ?_
  intro W base args ds gs before hval0 hW hcnd hsz0 _
  have hsz : (DataW.weightsEach Try.prog (Try.f10.params.toList ++ Rows.fnRegexTextSpec.plain.varTypes Try.prog) (ds ++ gs)).all (· ≤ reachBytes) = true := hsz0
  have hval : ∀ (j : Nat) t v, Try.f10.params[j]? = some t → args[j]? = some v → Value.okWide Try.prog W .any base t v := hval0
  have hW' := hW
  obtain ⟨p, q, hA0, hV, rfl, hfz, hnd⟩ := hW
  have hA : DataW.TrodAll enc Try.prog W 0 (fun _ => true) true Try.f10.params.toList args.toList ds p := hA0
  rw [Try.params10] at hA hval hsz
  obtain ⟨v0, vs0, d0, ds0, p0, q0, hargs, rfl, rfl, h0, r0⟩ := trodAll_cons hA
  obtain ⟨rfl, rfl, rfl⟩ := trodAll_nil r0
  obtain rfl : args = #[v0] := by cases args; simp_all
  obtain ⟨rfl, rfl⟩ := trodVars_none hV
  obtain ⟨a0, len0, cap0, rfl⟩ := okWide_slice Try.underlying42 (hval 0 42 v0 rfl rfl)
  have k0 := h0
  have lt0 : ∀ x ∈ p0, x.block < W.heap.size := by obtain ⟨m, hm⟩ := k0; exact DataW.trod_lt m _ _ _ hm
  obtain ⟨z0, w0⟩ : ∃ zs, IsRow .u8 W a0 len0 cap0 zs := by
    obtain ⟨fuel, hf⟩ := h0
    rcases open_ints Try.underlying42 Try.underlying5 (by kernel_rfl) hf with ⟨hcs, _⟩ | ⟨x, l, c, zs, hcs, _, hl, hm, hz, _, hcell, hwz⟩
    · simp [Value.cells] at hcs
      obtain ⟨rfl, rfl, rfl⟩ := hcs
      exact ⟨[], .inl ⟨rfl, rfl, rfl, rfl⟩⟩
    · simp [Value.cells] at hcs
      obtain ⟨rfl, rfl, rfl⟩ := hcs
      exact ⟨zs, .inr ⟨_, rfl, hl, hm, by simpa using hz, hcell, hwz⟩⟩
  have y0 : len0 * 1 ≤ 140737488351232 := Go.Proofs.YtldgkgdgcfllmaaW.PrintWords.sized_ints hsz (j := 0) (t := 42) rfl rfl Try.underlying42 Try.underlying5 (by kernel_rfl) (by kernel_rfl) h0
  clear hA0 hval0 hsz0 hsz
  refine (P.laws_FnRegexText.walk Pure.FnRegexText a0 len0 cap0 z0 W w0 y0).mono fun e W' ⟨he, bel⟩ => ?_
  subst he
  exact ⟨_, rfl, _, _, _, [], _, [], hW', trodAll_mk1 (shut_bool Try.underlying4 _), (trodAll_cons_mk (Below.trod laidOut (by kernel_rfl) (of_decide_eq_true (by kernel_rfl)) k0 bel lt0) trodAll_mk0), rfl, bel.frame _, fun h => by cases h⟩
theorem over : Rows.fnRegexTextRow.holds Try.pinned (OpenSpec.ofChange Rows.fnRegexTextSpec) :=
  OpenClaim.holds_of_wide 10 Try.f10 rfl rfl rfl rfl rfl rfl rfl ⟨rfl, rfl, rfl, rfl, rfl⟩ rfl rfl rfl rfl rfl (by kernel_rfl) Try.func10 (by kernel_rfl)
    (of_decide_eq_true (by kernel_rfl)) (by unfold Func.isWrapper; first | (rw [if_pos (by decide +kernel)]; kernel_rfl) | (rw [if_neg (by decide +kernel)]; exact ⟨rfl, rfl⟩))
    (fun os started H enc _ => lifted os started H enc)
theorem proved : Rows.FnRegexTextSaid := over
#print axioms proved
end Go.Proofs.Ytldgkgdgcfllmaa.fnRegexText
namespace Go.Proofs.Ytldgkgdgcfllmaa
theorem fnRegexText_holds : Rows.FnRegexTextSaid := fnRegexText.proved
end Go.Proofs.Ytldgkgdgcfllmaa
end
