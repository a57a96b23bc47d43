/- Texts of the proof of FnRegexText, put together. No condition. -/
import Derived.Test.YtldgkgdgcfllmaaQFnRegexText3
import Derived.Shelf.Abstract
import Derived.Lib.Walk
import Derived.Test.YtldgkgdgcfllmaaQFnRegexText8
import Derived.Laws.MakeOwn
import Derived.Test.YtldgkgdgcfllmaaQFnRegexText4
import Derived.Test.YtldgkgdgcfllmaaQFnRegexText5
section
namespace Go.Proofs.Ytldgkgdgcfllmaa.Rg
open Go.RowKit Go.Shelf Go.Proofs.Ytldgkgdgcfllmaa.P Go.Proofs.Ytldgkgdgcfllmaa.Pl Go.Proofs.YtldgkgdgcfllmaaW.PrintWords Go.Proofs.YtldgkgdgcfllmaaW.PrintLast Go.Proofs.YtldgkgdgcfllmaaW.PrintMore
set_option linter.unusedVariables false
set_option linter.unusedSimpArgs false
section
variable {w0 w1 W W' W2 : World} {T N n i p k : Nat} {b : Nat → Nat → Nat} {E : Nat → Nat → Nat → Bool} {V V' : Nat → Nat → Nat → Int} {r cb : Bool} {e : Ending}
end
end Go.Proofs.Ytldgkgdgcfllmaa.Rg
end
section
namespace Go.Proofs.Ytldgkgdgcfllmaa.Rg
open Go.RowKit Go.Shelf Go.Proofs.Ytldgkgdgcfllmaa.P Go.Proofs.Ytldgkgdgcfllmaa.Pl Go.Proofs.YtldgkgdgcfllmaaW.PrintWords Go.Proofs.YtldgkgdgcfllmaaW.PrintLast Go.Proofs.YtldgkgdgcfllmaaW.PrintMore
set_option linter.unusedVariables false
set_option linter.unusedSimpArgs false
section
variable {w0 W W' : World} {gz : Nat} {s : ByteArray} {N T : Nat} {X : List Rx} {C : List (List Int)} {b : Nat → Nat → Nat} {vn va vm : Value} {NC AC MC : List Value} {ok ok' : Nat → Prop}
end
section
variable {w0 W0 W W' : World} {ok0 ok1 : Nat → Prop} {gz gb : Nat} {bx : Array Value} {s : ByteArray} {N : Nat} {X : List Rx} {C : List (List Int)} {v5 v' : Value} {a1 : List Int} {y : Rx} {e : Ending} {q : Int}
end
section
variable {w0 W0 W W' : World} {ok0 ok1 : Nat → Prop} {gz gb : Nat} {bx : Array Value} {s : ByteArray} {N : Nat} {X : List Rx} {C : List (List Int)} {v5 v7 v' : Value} {a1 : List Int} {m r : Nat} {g : Nat → Nat} {TC : List Value} {row : Option Nat}
end
section
variable {w0 W W' : World} {gz : Nat} {s : ByteArray} {N T : Nat} {X : List Rx} {C : List (List Int)} {b : Nat → Nat → Nat} {vn va vm v1 : Value} {NC AC MC : List Value} {ok : Nat → Prop}
end
end Go.Proofs.Ytldgkgdgcfllmaa.Rg
end
section
namespace Go.Proofs.Ytldgkgdgcfllmaa.Rg
open Go.RowKit Go.Shelf Go.Proofs.Ytldgkgdgcfllmaa.P Go.Proofs.Ytldgkgdgcfllmaa.Pl Go.Proofs.YtldgkgdgcfllmaaW.PrintWords Go.Proofs.YtldgkgdgcfllmaaW.PrintLast Go.Proofs.YtldgkgdgcfllmaaW.PrintMore
set_option linter.unusedVariables false
set_option linter.unusedSimpArgs false
section
variable {w0 wr w' : World} {gz : Nat} {vb : Option Nat} {s : ByteArray} {va vm cur : Value} {g1 n c1 : Nat} {L : List Value}
end
section
variable {w0 W0 W W' : World} {ok0 ok1 : Nat → Prop} {gz gb : Nat} {bx : Array Value} {s : ByteArray} {N T : Nat} {X : List Rx} {C : List (List Int)} {b : Nat → Nat → Nat} {vn va vm v1 v5 : Value} {NC AC MC TC : List Value} {t7 c7 : Nat} {g : Nat → Nat} {a1 : List Int}
end
end Go.Proofs.Ytldgkgdgcfllmaa.Rg
end
section
namespace Go.Proofs.Ytldgkgdgcfllmaa.Rg
open Go.RowKit Go.Shelf Go.Proofs.Ytldgkgdgcfllmaa.P Go.Proofs.Ytldgkgdgcfllmaa.Pl Go.Proofs.YtldgkgdgcfllmaaW.PrintWords Go.Proofs.YtldgkgdgcfllmaaW.PrintLast Go.Proofs.YtldgkgdgcfllmaaW.PrintMore
set_option linter.unusedVariables false
set_option linter.unusedSimpArgs false
theorem take_snoc {ys : List Rx} {k : Nat} {y : Rx} (h : ys[k]? = some y) : ys.take (k + 1) = ys.take k ++ [y] := by
  rw [List.take_add_one, h]; rfl
section
variable {P : Program} {md : Region.Mode} {ops : Array Oper} {Q : Exit → Act → World → Prop} {S : World → Prop} {ds : List Nat}
end
end Go.Proofs.Ytldgkgdgcfllmaa.Rg
end
section
namespace Go.Proofs.Ytldgkgdgcfllmaa.P
open Go.RowKit Go.Proofs.YtldgkgdgcfllmaaW.PrintWords Go.Proofs.YtldgkgdgcfllmaaW.PrintLast Go.Proofs.YtldgkgdgcfllmaaW.PrintMore
attribute [local go_sem] max2_int min2_int max_two min_two max_three min_three max_four min_four
set_option linter.unusedVariables false
set_option linter.unusedSimpArgs false
end Go.Proofs.Ytldgkgdgcfllmaa.P
end
section
namespace Go.Proofs.Ytldgkgdgcfllmaa.P
open Go.RowKit Go.Proofs.YtldgkgdgcfllmaaW.PrintWords Go.Proofs.YtldgkgdgcfllmaaW.PrintLast Go.Proofs.YtldgkgdgcfllmaaW.PrintMore
attribute [local go_sem] max2_int min2_int max_two min_two max_three min_three max_four min_four
set_option linter.unusedVariables false
set_option linter.unusedSimpArgs false
end Go.Proofs.Ytldgkgdgcfllmaa.P
end
section
namespace Go.Proofs.Ytldgkgdgcfllmaa.Rg
open Go.RowKit Go.Shelf Go.Proofs.Ytldgkgdgcfllmaa.P Go.Proofs.Ytldgkgdgcfllmaa.Pl Go.Proofs.YtldgkgdgcfllmaaW.PrintWords Go.Proofs.YtldgkgdgcfllmaaW.PrintLast Go.Proofs.YtldgkgdgcfllmaaW.PrintMore
set_option linter.unusedVariables false
set_option linter.unusedSimpArgs false
def nds : Rx → List Rx
  | .cat x y => .cat x y :: (nds x ++ nds y)
  | .or x y => .or x y :: (nds x ++ nds y)
  | .and x y => .and x y :: (nds x ++ nds y)
  | .star x => .star x :: nds x
  | .not x => .not x :: nds x
  | .none => [.none]
  | .empty => [.empty]
  | .letter c => [.letter c]
  | .any => [.any]
end Go.Proofs.Ytldgkgdgcfllmaa.Rg
end
section
namespace Go.Proofs.Ytldgkgdgcfllmaa.P
open Go.RowKit Go.Proofs.YtldgkgdgcfllmaaW.PrintWords Go.Proofs.YtldgkgdgcfllmaaW.PrintLast Go.Proofs.YtldgkgdgcfllmaaW.PrintMore
attribute [local go_sem] max2_int min2_int max_two min_two max_three min_three max_four min_four
set_option linter.unusedVariables false
set_option linter.unusedSimpArgs false
end Go.Proofs.Ytldgkgdgcfllmaa.P
end
section
namespace Go.Proofs.Ytldgkgdgcfllmaa.P
open Go.RowKit Go.Proofs.YtldgkgdgcfllmaaW.PrintWords Go.Proofs.YtldgkgdgcfllmaaW.PrintLast Go.Proofs.YtldgkgdgcfllmaaW.PrintMore
attribute [local go_sem] max2_int min2_int max_two min_two max_three min_three max_four min_four
set_option linter.unusedVariables false
set_option linter.unusedSimpArgs false
end Go.Proofs.Ytldgkgdgcfllmaa.P
end
section
namespace Go.Proofs.Ytldgkgdgcfllmaa.Pl
open Go.RowKit Go.Proofs.Ytldgkgdgcfllmaa Go.Proofs.Ytldgkgdgcfllmaa.P Go.Proofs.YtldgkgdgcfllmaaW.PrintWords Go.Proofs.YtldgkgdgcfllmaaW.PrintLast Go.Proofs.YtldgkgdgcfllmaaW.PrintMore Rk
set_option linter.unusedVariables false
set_option linter.unusedSimpArgs false
theorem al_ax : ∀ (n : Nat) (x : TI), nd x < n → al x = true → ∃ y, Rg.Ax x y ∧ Rg.sz y = nd x := by
  intro n
  induction n with
  | zero => intro x h; omega
  | succ n ih =>
    intro x hn hal
    obtain ⟨k, l, xs⟩ := x
    rw [al_eq, Bool.and_eq_true] at hal
    obtain ⟨hals, hs⟩ := hal
    simp only [shp, Bool.and_eq_true, decide_eq_true_eq] at hs
    obtain ⟨hs, _⟩ := hs
    unfold argsN at hs
    match xs, hn, hals, hs with
    | [], hn, hals, hs =>
      have hk : 1 ≤ k ∧ k ≤ 4 := by
        simp only [List.length_nil] at hs
        split at hs
        · assumption
        · split at hs
          · omega
          · split at hs <;> omega
      have e1 : nd ⟨k, l, []⟩ = 1 := by rw [nd_eq, nds]
      rw [e1]
      rcases (show k = 1 ∨ k = 2 ∨ k = 3 ∨ k = 4 by omega) with rfl | rfl | rfl | rfl
      · exact ⟨_, Rg.Ax.none l, rfl⟩
      · exact ⟨_, Rg.Ax.empty l, rfl⟩
      · exact ⟨_, Rg.Ax.letter l, rfl⟩
      · exact ⟨_, Rg.Ax.any l, rfl⟩
    | [a], hn, hals, hs =>
      have hk : k = 8 ∨ k = 9 := by
        simp only [List.length_cons, List.length_nil] at hs
        split at hs
        · omega
        · split at hs
          · assumption
          · split at hs <;> omega
      have e1 : nd ⟨k, l, [a]⟩ = 1 + nd a := by rw [nd_eq]; simp only [nds]; omega
      simp only [als, Bool.and_true] at hals
      obtain ⟨y, hy, hz⟩ := ih a (by omega) hals
      rw [e1, ← hz]
      rcases hk with rfl | rfl
      · exact ⟨_, Rg.Ax.star l hy, rfl⟩
      · exact ⟨_, Rg.Ax.not l hy, rfl⟩
    | [a, b], hn, hals, hs =>
      have hk : 5 ≤ k ∧ k ≤ 7 := by
        simp only [List.length_cons, List.length_nil] at hs
        split at hs
        · omega
        · split at hs
          · omega
          · split at hs
            · assumption
            · omega
      have e1 : nd ⟨k, l, [a, b]⟩ = 1 + nd a + nd b := by rw [nd_eq]; simp only [nds]; omega
      simp only [als, Bool.and_true, Bool.and_eq_true] at hals
      obtain ⟨y, hy, hz⟩ := ih a (by omega) hals.1
      obtain ⟨z, hy2, hz2⟩ := ih b (by omega) hals.2
      rw [e1, ← hz, ← hz2]
      rcases (show k = 5 ∨ k = 6 ∨ k = 7 by omega) with rfl | rfl | rfl
      · exact ⟨_, Rg.Ax.cat l hy hy2, rfl⟩
      · exact ⟨_, Rg.Ax.or l hy hy2, rfl⟩
      · exact ⟨_, Rg.Ax.and l hy hy2, rfl⟩
    | _ :: _ :: _ :: t, hn, hals, hs =>
      simp only [List.length_cons] at hs
      exfalso
      split at hs
      · omega
      · split at hs
        · omega
        · split at hs <;> omega
end Go.Proofs.Ytldgkgdgcfllmaa.Pl
end
section
namespace Go.Proofs.Ytldgkgdgcfllmaa.Rg
open Go.RowKit Go.Proofs.Ytldgkgdgcfllmaa.P Go.Proofs.Ytldgkgdgcfllmaa.Pl Go.Proofs.YtldgkgdgcfllmaaW.PrintWords Go.Proofs.YtldgkgdgcfllmaaW.PrintLast Go.Proofs.YtldgkgdgcfllmaaW.PrintMore
set_option linter.unusedVariables false
set_option linter.unusedSimpArgs false
def Lt : Rx → Prop
  | .letter l => l.size = 1
  | .cat x y => Lt x ∧ Lt y
  | .or x y => Lt x ∧ Lt y
  | .and x y => Lt x ∧ Lt y
  | .star x => Lt x
  | .not x => Lt x
  | _ => True
theorem bytes_one {l : ByteArray} (h : l.size = 1) : ∃ d, bytesOf l = [d] := by
  have := len_bytes l
  rw [h] at this
  match hb : bytesOf l, this with
  | [d], _ => exact ⟨d, rfl⟩
def tr : Rx → Tr
  | .none => ⟨1, ⟨#[]⟩, []⟩
  | .empty => ⟨2, ⟨#[]⟩, []⟩
  | .letter l => ⟨3, l, []⟩
  | .any => ⟨4, ⟨#[]⟩, []⟩
  | .cat x y => ⟨5, ⟨#[]⟩, [tr x, tr y]⟩
  | .or x y => ⟨6, ⟨#[]⟩, [tr x, tr y]⟩
  | .and x y => ⟨7, ⟨#[]⟩, [tr x, tr y]⟩
  | .star x => ⟨8, ⟨#[]⟩, [tr x]⟩
  | .not x => ⟨9, ⟨#[]⟩, [tr x]⟩
theorem ax_tr : ∀ x, Ax (tr x) x
  | .none => Ax.none _
  | .empty => Ax.empty _
  | .letter l => Ax.letter _
  | .any => Ax.any _
  | .cat x y => Ax.cat _ (ax_tr x) (ax_tr y)
  | .or x y => Ax.or _ (ax_tr x) (ax_tr y)
  | .and x y => Ax.and _ (ax_tr x) (ax_tr y)
  | .star x => Ax.star _ (ax_tr x)
  | .not x => Ax.not _ (ax_tr x)
theorem ax_uniq {r : Tr} {x y : Rx} (h : Ax r x) (g : Ax r y) : x = y := by
  have h1 := ax_toRx h (sz x + sz y + 1) (by omega)
  have h2 := ax_toRx g (sz x + sz y + 1) (by omega)
  rw [h1] at h2
  exact Option.some.inj h2
end Go.Proofs.Ytldgkgdgcfllmaa.Rg
end
section
namespace Go.Proofs.Ytldgkgdgcfllmaa.Pl
open Go.RowKit Go.Proofs.Ytldgkgdgcfllmaa Go.Proofs.Ytldgkgdgcfllmaa.P Go.Proofs.YtldgkgdgcfllmaaW.PrintWords Go.Proofs.YtldgkgdgcfllmaaW.PrintLast Go.Proofs.YtldgkgdgcfllmaaW.PrintMore Rk
set_option linter.unusedVariables false
set_option linter.unusedSimpArgs false
theorem al_tr : ∀ (n : Nat) (x : TI), nd x < n → al x = true → ∃ y, x = Rg.tr y ∧ Rg.Lt y ∧ Rg.sz y = nd x := by
  intro n
  induction n with
  | zero => intro x h; omega
  | succ n ih =>
    intro x hn hal
    obtain ⟨k, l, xs⟩ := x
    obtain ⟨y, hy, hz⟩ := al_ax (nd ⟨k, l, xs⟩ + 1) ⟨k, l, xs⟩ (Nat.lt_succ_self _) hal
    rw [al_eq, Bool.and_eq_true] at hal
    obtain ⟨hals, hs⟩ := hal
    simp only [shp, Bool.and_eq_true, decide_eq_true_eq] at hs
    obtain ⟨_, hs⟩ := hs
    rw [← hz]
    cases hy with
    | none l => simp only [Int.reduceEq, if_false, decide_eq_true_eq] at hs; subst hs; exact ⟨.none, rfl, trivial, rfl⟩
    | empty l => simp only [Int.reduceEq, if_false, decide_eq_true_eq] at hs; subst hs; exact ⟨.empty, rfl, trivial, rfl⟩
    | any l => simp only [Int.reduceEq, if_false, decide_eq_true_eq] at hs; subst hs; exact ⟨.any, rfl, trivial, rfl⟩
    | letter l => simp only [if_true, Bool.and_eq_true, decide_eq_true_eq] at hs; exact ⟨.letter l, rfl, hs.1, rfl⟩
    | @star l a x ha =>
      simp only [Int.reduceEq, if_false, decide_eq_true_eq] at hs
      subst hs
      simp only [als, Bool.and_true] at hals
      rw [nd_eq] at hn
      simp only [nds] at hn
      obtain ⟨z, hz1, hz2, hz3⟩ := ih a (by omega) hals
      have := Rg.ax_tr z
      rw [← hz1] at this
      exact ⟨.star z, by rw [hz1]; rfl, hz2, by simp only [Rg.sz]; rw [Rg.ax_uniq ha this]⟩
    | @not l a x ha =>
      simp only [Int.reduceEq, if_false, decide_eq_true_eq] at hs
      subst hs
      simp only [als, Bool.and_true] at hals
      rw [nd_eq] at hn
      simp only [nds] at hn
      obtain ⟨z, hz1, hz2, hz3⟩ := ih a (by omega) hals
      have := Rg.ax_tr z
      rw [← hz1] at this
      exact ⟨.not z, by rw [hz1]; rfl, hz2, by simp only [Rg.sz]; rw [Rg.ax_uniq ha this]⟩
    | @cat l a b x y ha hb =>
      simp only [Int.reduceEq, if_false, decide_eq_true_eq] at hs
      subst hs
      simp only [als, Bool.and_true, Bool.and_eq_true] at hals
      rw [nd_eq] at hn
      simp only [nds] at hn
      obtain ⟨z, hz1, hz2, hz3⟩ := ih a (by omega) hals.1
      obtain ⟨v, hv1, hv2, hv3⟩ := ih b (by omega) hals.2
      have h1 := Rg.ax_tr z
      rw [← hz1] at h1
      have h2 := Rg.ax_tr v
      rw [← hv1] at h2
      exact ⟨.cat z v, by rw [hz1, hv1]; rfl, ⟨hz2, hv2⟩, by simp only [Rg.sz]; rw [Rg.ax_uniq ha h1, Rg.ax_uniq hb h2]⟩
    | @or l a b x y ha hb =>
      simp only [Int.reduceEq, if_false, decide_eq_true_eq] at hs
      subst hs
      simp only [als, Bool.and_true, Bool.and_eq_true] at hals
      rw [nd_eq] at hn
      simp only [nds] at hn
      obtain ⟨z, hz1, hz2, hz3⟩ := ih a (by omega) hals.1
      obtain ⟨v, hv1, hv2, hv3⟩ := ih b (by omega) hals.2
      have h1 := Rg.ax_tr z
      rw [← hz1] at h1
      have h2 := Rg.ax_tr v
      rw [← hv1] at h2
      exact ⟨.or z v, by rw [hz1, hv1]; rfl, ⟨hz2, hv2⟩, by simp only [Rg.sz]; rw [Rg.ax_uniq ha h1, Rg.ax_uniq hb h2]⟩
    | @and l a b x y ha hb =>
      simp only [Int.reduceEq, if_false, decide_eq_true_eq] at hs
      subst hs
      simp only [als, Bool.and_true, Bool.and_eq_true] at hals
      rw [nd_eq] at hn
      simp only [nds] at hn
      obtain ⟨z, hz1, hz2, hz3⟩ := ih a (by omega) hals.1
      obtain ⟨v, hv1, hv2, hv3⟩ := ih b (by omega) hals.2
      have h1 := Rg.ax_tr z
      rw [← hz1] at h1
      have h2 := Rg.ax_tr v
      rw [← hv1] at h2
      exact ⟨.and z v, by rw [hz1, hv1]; rfl, ⟨hz2, hv2⟩, by simp only [Rg.sz]; rw [Rg.ax_uniq ha h1, Rg.ax_uniq hb h2]⟩
theorem validR_tr {x : TI} (h : validR x = true) : ∃ y, x = Rg.tr y ∧ Rg.Lt y ∧ Rg.sz y ≤ 16 := by
  simp only [validR, Bool.and_eq_true, decide_eq_true_eq] at h
  obtain ⟨y, h1, h2, h3⟩ := al_tr (nd x + 1) x (by omega) h.2
  exact ⟨y, h1, h2, by omega⟩
end Go.Proofs.Ytldgkgdgcfllmaa.Pl
end
section
namespace Go.Proofs.Ytldgkgdgcfllmaa.Rg
open Go.RowKit Go.Proofs.Ytldgkgdgcfllmaa.P Go.Proofs.Ytldgkgdgcfllmaa.Pl Go.Proofs.YtldgkgdgcfllmaaW.PrintWords Go.Proofs.YtldgkgdgcfllmaaW.PrintLast Go.Proofs.YtldgkgdgcfllmaaW.PrintMore
set_option linter.unusedVariables false
set_option linter.unusedSimpArgs false
def sgn : List Int → Int × List Int
  | b :: t => if b = 124 then (6, t) else if b = 38 then (7, t) else (5, b :: t)
  | [] => (5, [])
def op2 (k : Int) (x y : Rx) : Rx := if k = 5 then .cat x y else if k = 6 then .or x y else .and x y
def one1 (b : Int) : ByteArray := ⟨#[UInt8.ofNat b.toNat]⟩
def pN : Nat → List Int → Option (Rx × List Int)
  | 0, _ => none
  | _ + 1, [] => none
  | d + 1, b :: t =>
    if b = 48 then some (.none, t) else if b = 49 then some (.empty, t) else if b = 46 then some (.any, t)
    else if b = 97 ∨ b = 98 ∨ b = 99 then some (.letter (one1 b), t)
    else if b = 42 then (pN d t).map fun x => (.star x.1, x.2)
    else if b = 33 then (pN d t).map fun x => (.not x.1, x.2)
    else if b = 40 then (pN d t).bind fun x => (pN d (sgn x.2).2).bind fun y => match y.2 with
      | c :: r => if c = 41 then some (op2 (sgn x.2).1 x.1 y.1, r) else none
      | [] => none
    else none
theorem sgn_len : ∀ l : List Int, (sgn l).2.length ≤ l.length
  | [] => Nat.le_refl _
  | c :: t => by
    simp only [sgn]
    by_cases h1 : c = 124
    · rw [if_pos h1]; simp
    · rw [if_neg h1]
      by_cases h2 : c = 38
      · rw [if_pos h2]; simp
      · rw [if_neg h2]; simp
theorem pN_len : ∀ (d : Nat) (l : List Int) (x : Rx × List Int), pN d l = some x → x.2.length < l.length
  | 0, _, _, h => by cases h
  | _ + 1, [], _, h => by cases h
  | d + 1, b :: t, x, h => by
    simp only [pN] at h
    have leaf : ∀ y : Rx, some (y, t) = some x → x.2.length < (b :: t).length := fun y e => by
      have e := Option.some.inj e
      rw [← e]
      simp
    have un : ∀ f : Rx → Rx, (pN d t).map (fun z => (f z.1, z.2)) = some x → x.2.length < (b :: t).length := fun f e => by
      obtain ⟨y, h1, h2⟩ := Option.map_eq_some_iff.1 e
      have := pN_len d t y h1
      rw [← h2]
      simp only [List.length_cons]
      omega
    by_cases h1 : b = 48
    · rw [if_pos h1] at h; exact leaf _ h
    rw [if_neg h1] at h
    by_cases h1 : b = 49
    · rw [if_pos h1] at h; exact leaf _ h
    rw [if_neg h1] at h
    by_cases h1 : b = 46
    · rw [if_pos h1] at h; exact leaf _ h
    rw [if_neg h1] at h
    by_cases h1 : b = 97 ∨ b = 98 ∨ b = 99
    · rw [if_pos h1] at h; exact leaf _ h
    rw [if_neg h1] at h
    by_cases h1 : b = 42
    · rw [if_pos h1] at h; exact un _ h
    rw [if_neg h1] at h
    by_cases h1 : b = 33
    · rw [if_pos h1] at h; exact un _ h
    rw [if_neg h1] at h
    by_cases h1 : b = 40
    · rw [if_pos h1] at h
      obtain ⟨y, h1, h2⟩ := Option.bind_eq_some_iff.1 h
      obtain ⟨z, h3, h4⟩ := Option.bind_eq_some_iff.1 h2
      have a1 := pN_len d t y h1
      have a2 := pN_len d _ z h3
      have a3 := sgn_len y.2
      cases hm : z.2 with
      | nil => rw [hm] at h4; cases h4
      | cons c m =>
        rw [hm] at h4 a2
        by_cases h5 : c = 41
        · simp only [if_pos h5] at h4
          have e := Option.some.inj h4
          rw [← e]
          simp only [List.length_cons] at a2 ⊢
          omega
        · simp only [if_neg h5] at h4
          cases h4
    · rw [if_neg h1] at h; cases h
end Go.Proofs.Ytldgkgdgcfllmaa.Rg
end
section
namespace Go.Proofs.Ytldgkgdgcfllmaa.P
open Go.RowKit Go.Proofs.YtldgkgdgcfllmaaW.PrintWords Go.Proofs.YtldgkgdgcfllmaaW.PrintLast Go.Proofs.YtldgkgdgcfllmaaW.PrintMore
attribute [local go_sem] max2_int min2_int max_two min_two max_three min_three max_four min_four
set_option linter.unusedVariables false
set_option linter.unusedSimpArgs false
def IsS57 (w0 W : World) (g : Nat) (f0 : ByteArray) (f1 : Int) (f2 : Bool) : Prop := W.heap[g]? = some (.cells #[.string f0, .int .i64 f1, .bool f2] 57 (0, 0)) ∧ w0.heap.size ≤ g
theorem IsS57.grown {w0 W : World} {g : Nat} {f0 : ByteArray} {f1 : Int} {f2 : Bool} {W1 : World} {row : Option Nat} (h : IsS57 w0 W g f0 f1 f2) (hw : W.grownBy W1 row) (hne : some g ≠ row) : IsS57 w0 W1 g f0 f1 f2 := by
  obtain ⟨hb, hg⟩ := h
  exact ⟨blk_grown hb hw hne, hg⟩
theorem IsS57.own_neN {w0 W : World} {g : Nat} {f0 : ByteArray} {f1 : Int} {f2 : Bool} {α : Type} {d : Kd α} {e : Nat} {base : Nat} {ok : Nat → Prop} {v : Value} {xs : List α} (h : IsS57 w0 W g f0 f1 f2) (ho : Kd.N d e W base ok v xs) (ht : e ≠ 57) : some g ≠ v.ownBlock := by
  obtain ⟨hb, hg⟩ := h
  exact Kd.N_ne ho hb ht
theorem IsS57.fresh {w0 W : World} {g : Nat} {f0 : ByteArray} {f1 : Int} {f2 : Bool} (h : IsS57 w0 W g f0 f1 f2) : ∀ k, W.heap.size ≤ k → k ≠ g := by
  obtain ⟨hb, hg⟩ := h
  exact Kd.freshB hb
theorem IsS57.kept {w0 W : World} {g : Nat} {f0 : ByteArray} {f1 : Int} {f2 : Bool} {W1 : World} {S : Nat → Prop} (h : IsS57 w0 W g f0 f1 f2) (hk : Kept W W1 S) (hne : ¬ S g) : IsS57 w0 W1 g f0 f1 f2 := by
  obtain ⟨hb, hg⟩ := h
  exact ⟨blk_kept hb hk hne, hg⟩
theorem IsS57.below {w0 W : World} {g : Nat} {f0 : ByteArray} {f1 : Int} {f2 : Bool} {W1 : World} (h : IsS57 w0 W g f0 f1 f2) (hw : Below W.heap.size W W1) : IsS57 w0 W1 g f0 f1 f2 := h.grown (grown_of_below hw none) (by simp)
theorem IsS57.alloc {w0 W : World} {g : Nat} {f0 : ByteArray} {f1 : Int} {f2 : Bool} (h : IsS57 w0 W g f0 f1 f2) (o : Obj) : IsS57 w0 (W.alloc o) g f0 f1 f2 := h.below (below_alloc (Below.refl _ _) o)
theorem IsS57.drewN {w0 W : World} {g : Nat} {f0 : ByteArray} {f1 : Int} {f2 : Bool} (h : IsS57 w0 W g f0 f1 f2) (m : Nat) : IsS57 w0 (W.drewN m) g f0 f1 f2 := h
theorem IsS57.drew {w0 W : World} {g : Nat} {f0 : ByteArray} {f1 : Int} {f2 : Bool} (h : IsS57 w0 W g f0 f1 f2) : IsS57 w0 W.drew g f0 f1 f2 := h
theorem IsS57.at_ {w0 W : World} {g : Nat} {f0 : ByteArray} {f1 : Int} {f2 : Bool} {w' : World} {m : Nat} (hq : W.drewN m = w') (h : IsS57 w0 W g f0 f1 f2) : IsS57 w0 w' g f0 f1 f2 := by subst hq; exact IsS57.drewN h m
theorem IsS57.apart {w0 W : World} {g : Nat} {f0 : ByteArray} {f1 : Int} {f2 : Bool} {α : Type} {d : Kd α} {e : Nat} {base : Nat} {ok : Nat → Prop} {v : Value} {xs : List α} (h : IsS57 w0 W g f0 f1 f2) (ho : d.R e W base ok v xs) (ht : ∀ q, q ∈ e :: d.E → q ≠ 57) : d.R e W base (fun k => ok k ∧ k ≠ g) v xs := by
  obtain ⟨hb, hg⟩ := h
  exact Kd.R_types ho hb ht
theorem IsS57.own_ne {w0 W : World} {g : Nat} {f0 : ByteArray} {f1 : Int} {f2 : Bool} {α : Type} {d : Kd α} {e : Nat} {base : Nat} {ok : Nat → Prop} {v : Value} {xs : List α} (h : IsS57 w0 W g f0 f1 f2) (ho : d.R e W base ok v xs) (ht : e ≠ 57) : some g ≠ v.ownBlock := by
  obtain ⟨hb, hg⟩ := h
  exact Kd.R_ne ho hb ht
theorem IsS57.lt {w0 W : World} {g : Nat} {f0 : ByteArray} {f1 : Int} {f2 : Bool} (h : IsS57 w0 W g f0 f1 f2) : g < W.heap.size := by
  obtain ⟨hb, hg⟩ := h
  exact blk_lt hb
theorem IsS57.ge {w0 W : World} {g : Nat} {f0 : ByteArray} {f1 : Int} {f2 : Bool} (h : IsS57 w0 W g f0 f1 f2) : w0.heap.size ≤ g := by
  obtain ⟨hb, hg⟩ := h
  exact hg
theorem IsS57.ne_blk {w0 W : World} {g : Nat} {f0 : ByteArray} {f1 : Int} {f2 : Bool} {a : Nat} {cs : Array Value} {t : TypeId} {fr : Nat × Nat} (h : IsS57 w0 W g f0 f1 f2) (hb2 : W.heap[a]? = some (.cells cs t fr)) (ht : t ≠ 57) : g ≠ a := by
  obtain ⟨hb, hg⟩ := h
  rintro rfl
  rw [hb] at hb2
  injection hb2 with hb2
  injection hb2 with _ ht2
  exact ht ht2.symm
theorem IsS57.far {w0 W : World} {g : Nat} {f0 : ByteArray} {f1 : Int} {f2 : Bool} {p : Addr} (h : IsS57 w0 W g f0 f1 f2) (hne : g ≠ p.block) (u : Value) : IsS57 w0 (W.setCell p u) g f0 f1 f2 := by
  obtain ⟨hb, hg⟩ := h
  exact ⟨blk_far hb hne u, hg⟩
theorem cellS57_0 {W : World} {g : Nat} {f0 : ByteArray} {f1 : Int} {f2 : Bool} (h : W.heap[g]? = some (.cells #[.string f0, .int .i64 f1, .bool f2] 57 (0, 0))) : W.cell? ⟨g, 0, none⟩ = some (.string f0) := (blk_cell h 0).trans rfl
theorem IsS57.set_0 {w0 W : World} {g : Nat} {f0 : ByteArray} {f1 : Int} {f2 : Bool} (h : IsS57 w0 W g f0 f1 f2) (x : ByteArray) : IsS57 w0 (W.setCell ⟨g, 0, none⟩ (.string x)) g x f1 f2 := by
  obtain ⟨hb, hg⟩ := h
  exact ⟨by simpa using blk_set hb 0 (.string x), hg⟩
theorem cellS57_1 {W : World} {g : Nat} {f0 : ByteArray} {f1 : Int} {f2 : Bool} (h : W.heap[g]? = some (.cells #[.string f0, .int .i64 f1, .bool f2] 57 (0, 0))) : W.cell? ⟨g, 1, none⟩ = some (.int .i64 f1) := (blk_cell h 1).trans rfl
theorem IsS57.set_1 {w0 W : World} {g : Nat} {f0 : ByteArray} {f1 : Int} {f2 : Bool} (h : IsS57 w0 W g f0 f1 f2) (x : Int) : IsS57 w0 (W.setCell ⟨g, 1, none⟩ (.int .i64 x)) g f0 x f2 := by
  obtain ⟨hb, hg⟩ := h
  exact ⟨by simpa using blk_set hb 1 (.int .i64 x), hg⟩
theorem cellS57_2 {W : World} {g : Nat} {f0 : ByteArray} {f1 : Int} {f2 : Bool} (h : W.heap[g]? = some (.cells #[.string f0, .int .i64 f1, .bool f2] 57 (0, 0))) : W.cell? ⟨g, 2, none⟩ = some (.bool f2) := (blk_cell h 2).trans rfl
theorem IsS57.set_2 {w0 W : World} {g : Nat} {f0 : ByteArray} {f1 : Int} {f2 : Bool} (h : IsS57 w0 W g f0 f1 f2) (x : Bool) : IsS57 w0 (W.setCell ⟨g, 2, none⟩ (.bool x)) g f0 f1 x := by
  obtain ⟨hb, hg⟩ := h
  exact ⟨by simpa using blk_set hb 2 (.bool x), hg⟩
theorem IsS57.new (w0 W : World) (f0 : ByteArray) (f1 : Int) (f2 : Bool) (hB : Below w0.heap.size w0 W) : IsS57 w0 (W.alloc (.cells #[.string f0, .int .i64 f1, .bool f2] 57)) W.heap.size f0 f1 f2 := ⟨by simpa using heap_alloc_new W _, hB.size⟩
def spec_l3Take.f (s0_0 : ByteArray) (s0_1 : Int) (s0_2 : Bool) (a1 : ByteArray) : Option (Bool × ByteArray × Int × Bool) := if s0_2 = true then (some (false, s0_0, s0_1, s0_2)) else (if (wrap64 (s0_1 + (a1.size : Int))) > (s0_0.size : Int) then (some (false, s0_0, s0_1, s0_2)) else (if 0 ≤ s0_1 then (if s0_1 ≤ (wrap64 (s0_1 + (a1.size : Int))) then (if (wrap64 (s0_1 + (a1.size : Int))) ≤ (s0_0.size : Int) then (if (s0_0.extract (s0_1 : Int).toNat ((wrap64 (s0_1 + (a1.size : Int))) : Int).toNat).toList = a1.toList then (some (true, s0_0, wrap64 (s0_1 + (a1.size : Int)), s0_2)) else (some (false, s0_0, s0_1, s0_2))) else (none)) else (none)) else (none)))
theorem zp21_0_ {p q : Prop} (h : p) (c : p → q := by intro h_; repeat (first | (with_reducible first | exact h_ | apply IsS57.alloc | apply IsS57.drewN | apply IsS57.drew | apply IsS57.set_0 | apply IsS57.set_1 | apply IsS57.set_2) | exact h_)) : q := c h
theorem zp21_1_ {p q g1 : Prop} (h : p) (h1 : g1) (c : p → g1 → q := by intro h_ h1_; repeat (first | (with_reducible first | exact h_ | apply below_alloc | apply pw_below_drewN | apply below_drew1 | refine below_set ?_ h1_) | exact h_)) : q := c h h1
theorem zp21_2_ {p q : Prop} (h : p) (c : p → q := by intro h_; repeat (first | (with_reducible first | exact h_ | apply KeepBut.set_ | apply keep_drewN | apply keep_drew | apply keep_alloc) | exact h_)) : q := c h
set_option maxHeartbeats 8000000 in
set_option maxRecDepth 100000 in
theorem spec_l3Take.calls (g : Nat) (s0_0 : ByteArray) (s0_1 : Int) (s0_2 : Bool) (a1 : ByteArray) (r1 : Bool) (r2 : ByteArray) (r3 : Int) (r4 : Bool) (w0 w : World) (hI : IsS57 w0 w g s0_0 s0_1 s0_2) (hB : Below w0.heap.size w0 w) (h : spec_l3Take.f s0_0 s0_1 s0_2 a1 = some (r1, r2, r3, r4)) :
    Calls Try.prog 71 #[.pointer (some ⟨g, 0, none⟩), .string a1] w fun e w' => e = .returned (.bool r1) ∧ IsS57 w0 w' g r2 r3 r4 ∧ Below w0.heap.size w0 w' ∧ KeepBut w w' g none := by
  have HI0 := am_ hI
  have HK := am_ (KeepBut.refl w g none)
  have HL := am_ hB.size
  clear hI
  have HW0 := am_ hB.size
  have HB := am_ hB
  clear hB
  have H : (if s0_2 = true then (some (false, s0_0, s0_1, s0_2)) else (if (wrap64 (s0_1 + (a1.size : Int))) > (s0_0.size : Int) then (some (false, s0_0, s0_1, s0_2)) else (if 0 ≤ s0_1 then (if s0_1 ≤ (wrap64 (s0_1 + (a1.size : Int))) then (if (wrap64 (s0_1 + (a1.size : Int))) ≤ (s0_0.size : Int) then (if (s0_0.extract (s0_1 : Int).toNat ((wrap64 (s0_1 + (a1.size : Int))) : Int).toNat).toList = a1.toList then (some (true, s0_0, wrap64 (s0_1 + (a1.size : Int)), s0_2)) else (some (false, s0_0, s0_1, s0_2))) else (none)) else (none)) else (none)))) = some (r1, r2, r3, r4) := h
  clear h
  by_cases c3 : s0_2 = true
  · subst c3
    have H1 : (some (false, s0_0, s0_1, true)) = some (r1, r2, r3, r4) := by rw [if_pos rfl] at H; exact H
    clear H
    have H := H1
    clear H1
    simp only [Option.some.injEq, Prod.mk.injEq] at H
    obtain ⟨rfl, rfl, rfl, rfl⟩ := H
    obtain ⟨HGz4, hgz4⟩ := HI0.out
    have an := cellS57_0 HGz4
    have ao := cellS57_1 HGz4
    have ap := cellS57_2 HGz4
    have aq := blk_frozen HGz4 0
    have ar := blk_frozen HGz4 1
    have au := blk_frozen HGz4 2
    clear HGz4 hgz4
    go_enter Try.func71, Try.ntmps71
    go_wp2
    repeat (go_quiet (fail); try go_wp2)
    go_ret
    exact ⟨by first | rfl | (simp [errW_none, errW_some] <;> rfl) | (simp [*, errW_none, errW_some] <;> rfl), by exact zp21_0_ HI0.out, by exact zp21_1_ HB.out (IsS57.ge HI0.out), by exact zp21_2_ HK.out⟩
  · replace c3 := Bool.eq_false_iff.mpr c3
    subst c3
    have H1 : (if (wrap64 (s0_1 + (a1.size : Int))) > (s0_0.size : Int) then (some (false, s0_0, s0_1, false)) else (if 0 ≤ s0_1 then (if s0_1 ≤ (wrap64 (s0_1 + (a1.size : Int))) then (if (wrap64 (s0_1 + (a1.size : Int))) ≤ (s0_0.size : Int) then (if (s0_0.extract (s0_1 : Int).toNat ((wrap64 (s0_1 + (a1.size : Int))) : Int).toNat).toList = a1.toList then (some (true, s0_0, wrap64 (s0_1 + (a1.size : Int)), false)) else (some (false, s0_0, s0_1, false))) else (none)) else (none)) else (none))) = some (r1, r2, r3, r4) := by rw [if_neg (show ¬ (false = true) by decide)] at H; exact H
    clear H
    have H := H1
    clear H1
    by_cases c5 : (wrap64 (s0_1 + (a1.size : Int))) > (s0_0.size : Int)
    · rw [if_pos c5] at H
      have c5b0 : decide ((s0_0.size : Int) < (wrap64 (s0_1 + (a1.size : Int)))) = true := decide_eq_true c5
      clear c5
      simp only [Option.some.injEq, Prod.mk.injEq] at H
      obtain ⟨rfl, rfl, rfl, rfl⟩ := H
      obtain ⟨HGz6, hgz6⟩ := HI0.out
      have av := cellS57_0 HGz6
      have aw := cellS57_1 HGz6
      have ax := cellS57_2 HGz6
      have ay := blk_frozen HGz6 0
      have az := blk_frozen HGz6 1
      have aA := blk_frozen HGz6 2
      clear HGz6 hgz6
      go_enter Try.func71, Try.ntmps71
      go_wp2
      repeat (go_quiet (fail); try go_wp2)
      go_ret
      exact ⟨by first | rfl | (simp [errW_none, errW_some] <;> rfl) | (simp [*, errW_none, errW_some] <;> rfl), by exact zp21_0_ HI0.out, by exact zp21_1_ HB.out (IsS57.ge HI0.out), by exact zp21_2_ HK.out⟩
    · rw [if_neg c5] at H
      have c5b0 : decide ((s0_0.size : Int) < (wrap64 (s0_1 + (a1.size : Int)))) = false := decide_eq_false c5
      clear c5
      by_cases c7 : 0 ≤ s0_1
      · rw [if_pos c7] at H
        have c7b0 := eq_true c7
        have c7b1 : decide (0 ≤ s0_1) = true := decide_eq_true c7
        clear c7
        by_cases c8 : s0_1 ≤ (wrap64 (s0_1 + (a1.size : Int)))
        · rw [if_pos c8] at H
          have c8b0 := eq_true c8
          have c8b1 : decide (s0_1 ≤ (wrap64 (s0_1 + (a1.size : Int)))) = true := decide_eq_true c8
          by_cases c9 : (wrap64 (s0_1 + (a1.size : Int))) ≤ (s0_0.size : Int)
          · rw [if_pos c9] at H
            have c9b0 := eq_true c9
            have c9b1 : decide ((wrap64 (s0_1 + (a1.size : Int))) ≤ (s0_0.size : Int)) = true := decide_eq_true c9
            by_cases c10 : (s0_0.extract (s0_1 : Int).toNat ((wrap64 (s0_1 + (a1.size : Int))) : Int).toNat).toList = a1.toList
            · rw [if_pos c10] at H
              have c10b0 : ((s0_0.extract (s0_1 : Int).toNat ((wrap64 (s0_1 + (a1.size : Int))) : Int).toNat).toList == a1.toList) = true := beq_iff_eq.mpr c10
              have c10b1 : ((s0_0.extract (s0_1 : Int).toNat ((wrap64 (s0_1 + (a1.size : Int))) : Int).toNat).toList != a1.toList) = false := bne_eq_false_iff_eq.mpr c10
              clear c10
              simp only [Option.some.injEq, Prod.mk.injEq] at H
              obtain ⟨rfl, rfl, rfl, rfl⟩ := H
              obtain ⟨HGz11, hgz11⟩ := HI0.out
              have aa := cellS57_0 HGz11
              have ab := cellS57_1 HGz11
              have ad := cellS57_2 HGz11
              have ae := blk_frozen HGz11 0
              have af := blk_frozen HGz11 1
              have ag := blk_frozen HGz11 2
              clear HGz11 hgz11
              go_enter Try.func71, Try.ntmps71
              go_wp2
              repeat (go_quiet (fail); try go_wp2)
              go_ret
              exact ⟨by first | rfl | (simp [errW_none, errW_some] <;> rfl) | (simp [*, errW_none, errW_some] <;> rfl), by exact zp21_0_ HI0.out, by exact zp21_1_ HB.out (IsS57.ge HI0.out), by exact zp21_2_ HK.out⟩
            · rw [if_neg c10] at H
              have c10b0 : ((s0_0.extract (s0_1 : Int).toNat ((wrap64 (s0_1 + (a1.size : Int))) : Int).toNat).toList == a1.toList) = false := beq_eq_false_iff_ne.mpr c10
              have c10b1 : ((s0_0.extract (s0_1 : Int).toNat ((wrap64 (s0_1 + (a1.size : Int))) : Int).toNat).toList != a1.toList) = true := bne_iff_ne.mpr c10
              simp only [Option.some.injEq, Prod.mk.injEq] at H
              obtain ⟨rfl, rfl, rfl, rfl⟩ := H
              obtain ⟨HGz12, hgz12⟩ := HI0.out
              have ah := cellS57_0 HGz12
              have ai := cellS57_1 HGz12
              have aj := cellS57_2 HGz12
              have ak := blk_frozen HGz12 0
              have al := blk_frozen HGz12 1
              have am := blk_frozen HGz12 2
              clear HGz12 hgz12
              go_enter Try.func71, Try.ntmps71
              go_wp2
              repeat (go_quiet (fail); try go_wp2)
              go_ret
              exact ⟨by first | rfl | (simp [errW_none, errW_some] <;> rfl) | (simp [*, errW_none, errW_some] <;> rfl), by exact zp21_0_ HI0.out, by exact zp21_1_ HB.out (IsS57.ge HI0.out), by exact zp21_2_ HK.out⟩
          · rw [if_neg c9] at H
            exact absurd H (by simp)
        · rw [if_neg c8] at H
          exact absurd H (by simp)
      · rw [if_neg c7] at H
        exact absurd H (by simp)
end Go.Proofs.Ytldgkgdgcfllmaa.P
end
section
namespace Go.Proofs.Ytldgkgdgcfllmaa
open Go.RowKit Go.Shelf Go.Proofs.Ytldgkgdgcfllmaa.P Go.Proofs.Ytldgkgdgcfllmaa.Pl Go.Proofs.Ytldgkgdgcfllmaa.Rg Go.Proofs.YtldgkgdgcfllmaaW.PrintWords Go.Proofs.YtldgkgdgcfllmaaW.PrintLast Go.Proofs.YtldgkgdgcfllmaaW.PrintMore
set_option linter.unusedVariables false
set_option linter.unusedSimpArgs false
theorem Sl.nn {w0 w : World} {ps qs : List Pc} (H : Sl w0 w ps) (e : ps = qs := by simp only [List.cons_append, List.nil_append, List.set_cons_zero, List.set_cons_succ]; rfl) : Sl w0 w qs := e ▸ H
def restP (ps : List Pc) : Pc := ⟨fun w fp => SlF w ps fp, fun h hm => SlF.mv h hm, fun h => SlF.lt h⟩
theorem Sl.box {w0 w : World} {ps : List Pc} {p : Pc} (H : Sl w0 w ps) (i : Nat) (hi : ps[i]? = some p) : Sl w0 w [p, restP (ps.set i emp)] := by
  obtain ⟨fp, h1, h2, h3⟩ := H.own
  obtain ⟨f, fr, h4, h5, h6⟩ := SlF.at_ h1 hi
  obtain ⟨gp, g1, g2⟩ := h6 w emp [] (fun _ _ => rfl) rfl
  have hp : (f ++ (gp ++ [])).Perm fp := by
    rw [List.append_nil]
    exact (List.Perm.append_left f (by simpa using g2)).trans h5.symm
  exact ⟨H.bel, f ++ (gp ++ []), ⟨f, gp ++ [], rfl, h4, gp, [], rfl, g1, rfl⟩, (List.Perm.nodup_iff hp).2 h2, fun k hk => h3 k (hp.mem_iff.1 hk)⟩
theorem Sl.unbox {w0 w' : World} {ps qs : List Pc} {q : Pc} {i : Nat} (H : Sl w0 w' (q :: restP (ps.set i emp) :: qs)) (hi : i < ps.length) : Sl w0 w' (ps.set i q ++ qs) := by
  obtain ⟨fp, ⟨f1, f23, e, h1, f2, f3, e2, h2, h3⟩, hn, hg⟩ := H.own
  obtain ⟨f, fr, hf, hperm, hh⟩ := SlF.at_ (i := i) (p := emp) (show SlF w' (ps.set i emp) f2 from h2) (List.getElem?_set_self hi)
  obtain ⟨gp, g1, g2⟩ := hh w' q f1 (fun _ _ => rfl) h1
  rw [List.set_set] at g1
  have hf : f = [] := hf
  rw [hf, List.nil_append] at hperm
  have hp : (gp ++ f3).Perm fp := by
    rw [e, e2, ← List.append_assoc]
    exact List.Perm.append_right f3 (g2.trans (List.Perm.append_left f1 hperm.symm))
  exact ⟨H.bel, gp ++ f3, SlF.app g1 h3, (List.Perm.nodup_iff hp).2 hn, fun k hk => hg k (hp.mem_iff.1 hk)⟩
abbrev rbox (g : Nat) (s : ByteArray) (n : Nat) (b : Bool) : Pc := bx g #[.string s, .int .i64 (n : Int), .bool b] 57
def tk (b : Bool) (l : List Int) (c : Int) : Bool := !b && l.head? == some c
theorem take_gen {s : ByteArray} {n : Nat} (hn : n ≤ s.size) (hs : s.size ≤ 140737488351232) (b : Bool) (c : UInt8) :
    spec_l3Take.f s n b ⟨#[c]⟩ = some (tk b ((bytesOf s).drop n) c.toNat, s, ((if tk b ((bytesOf s).drop n) c.toNat = true then n + 1 else n : Nat) : Int), b) := by
  cases b with
  | true => rfl
  | false =>
  have e1 : wrap64 ((n : Int) + ((⟨#[c]⟩ : ByteArray).size : Int)) = ((n + 1 : Nat) : Int) := by
    rw [show (⟨#[c]⟩ : ByteArray).size = 1 from rfl, w64 (by omega) (by omega)]; omega
  unfold spec_l3Take.f
  rw [e1]
  by_cases hz : n < s.size
  · have hd := drop_cons s n hz
    have ex : bytesOf (s.extract n (n + 1)) = [bt s n] := by
      rw [bytes_extract, take_snoc s n hz, List.drop_append_of_le_length (by rw [List.length_take, len_bytes]; omega), List.drop_eq_nil_of_le (by rw [List.length_take, len_bytes]; omega)]
      rfl
    have hc : bytesOf (⟨#[c]⟩ : ByteArray) = [(c.toNat : Int)] := rfl
    have hiff : ((s.extract n (n + 1)).toList = (⟨#[c]⟩ : ByteArray).toList) ↔ bt s n = (c.toNat : Int) := by
      rw [toList_iff]
      constructor
      · intro e
        rw [e, hc] at ex
        exact (List.cons.inj ex).1.symm
      · intro e
        exact bytes_inj (by rw [ex, hc, e])
    rw [if_neg (by decide), if_neg (by omega), if_pos (by omega), if_pos (by omega), if_pos (by omega)]
    rw [show ((n : Int)).toNat = n by omega, show (((n + 1 : Nat) : Int)).toNat = n + 1 by omega]
    by_cases hq : bt s n = (c.toNat : Int)
    · rw [if_pos (hiff.2 hq), hd]
      simp [tk, hq]
    · rw [if_neg (fun e => hq (hiff.1 e)), hd]
      have : tk false (bt s n :: (bytesOf s).drop (n + 1)) c.toNat = false := by simp [tk, hq]
      rw [this]
      rfl
  · rw [if_neg (by decide), if_pos (by omega), drop_end s n (by omega)]
    rfl
structure TK (s : ByteArray) (b : Bool) (n m : Nat) (c : Int) (v : Bool) : Prop where
  le : m ≤ s.size
  r : v = tk b ((bytesOf s).drop n) c
  m : m = if v = true then n + 1 else n
theorem takeCall {w0 w : World} {ps : List Pc} {g n : Nat} {s : ByteArray} {b : Bool} (H : Sl w0 w ps) (i : Nat) (hi : ps[i]? = some (rbox g s n b)) (hn : n ≤ s.size) (hs : s.size ≤ 140737488351232) (c : UInt8) :
    Calls Try.prog 71 #[.pointer (some ⟨g, 0, none⟩), .string ⟨#[c]⟩] w fun e w' => ∃ r m, e = .returned (.bool r) ∧ Sl w0 w' (ps.set i (rbox g s m b)) ∧ TK s b n m c.toNat r := by
  obtain ⟨f, ⟨hf, hb⟩, -, hg⟩ := H.get i hi
  have hge : w0.heap.size ≤ g := hg g (by rw [hf]; exact List.mem_singleton.2 rfl)
  refine (spec_l3Take.calls g s n b ⟨#[c]⟩ _ _ _ _ w0 w ⟨hb, hge⟩ H.bel (take_gen hn hs b c)).mono ?_
  rintro e w' ⟨rfl, ⟨hb', -⟩, hbel, hk⟩
  refine ⟨_, _, rfl, H.upd i hi hbel (fun f2 hp hn2 _ => ⟨[g], ⟨rfl, hb'⟩, by simp, fun k hk' => Or.inl (by rw [hp.1]; exact hk'), fun k hlt hk' => hk.2 k hlt (fun e => hk' (by rw [hp.1, e]; exact List.mem_singleton.2 rfl)) (by simp)⟩), ⟨?_, rfl, rfl⟩⟩
  split
  · rename_i ht
    simp only [tk, Bool.and_eq_true] at ht
    cases hl : (bytesOf s).drop n with
    | nil => rw [hl] at ht; simp at ht
    | cons x t =>
      have := congrArg List.length hl
      rw [List.length_drop, len_bytes] at this
      simp only [List.length_cons] at this
      omega
  · exact hn
theorem TK.bad {s : ByteArray} {n m : Nat} {c : Int} {r : Bool} (h : TK s true n m c r) : r = false ∧ m = n := by
  have := h.r
  have h2 : r = false := this
  exact ⟨h2, by have := h.m; rw [h2] at this; exact this⟩
theorem TK.yes {s : ByteArray} {b : Bool} {n m : Nat} {c : Int} (h : TK s b n m c true) : b = false ∧ m = n + 1 ∧ ∃ t, (bytesOf s).drop n = c :: t ∧ (bytesOf s).drop m = t := by
  have hr := h.r
  have hm : m = n + 1 := h.m
  simp only [tk] at hr
  cases b with
  | true => cases hr
  | false =>
    cases hl : (bytesOf s).drop n with
    | nil => rw [hl] at hr; simp at hr
    | cons x t =>
      rw [hl] at hr
      have hx : x = c := by simpa using hr
      refine ⟨rfl, hm, t, by rw [hx], ?_⟩
      rw [hm, show n + 1 = n + 1 from rfl, ← List.drop_drop, hl]
      rfl
theorem TK.no {s : ByteArray} {n m : Nat} {b : Bool} {c : Int} (h : TK s b n m c false) : m = n ∧ (b = false → ∀ t, (bytesOf s).drop n ≠ c :: t) := by
  have hr := h.r
  refine ⟨h.m, fun hb t e => ?_⟩
  rw [hb, e] at hr
  simp [tk] at hr
def lf (b : Bool) (l : List Int) : Option (Rx × List Int) := if b = true then none else match l with
  | [] => none
  | c :: t => if c = 48 then some (.none, t) else if c = 49 then some (.empty, t) else if c = 46 then some (.any, t) else if c = 97 ∨ c = 98 ∨ c = 99 then some (.letter (one1 c), t) else none
structure RdR (res : Option (Rx × List Int)) (s : ByteArray) (m : Nat) (b : Bool) (q : Tr) : Prop where
  le : m ≤ s.size
  ok : match res with
    | some x => b = false ∧ q = tr x.1 ∧ (bytesOf s).drop m = x.2
    | none => b = true
end Go.Proofs.Ytldgkgdgcfllmaa
end
