/- Texts of the proof of FnDerivatives, put together. No condition. -/
import Derived.Test.YtldgkgdgcfllmaaQFnDerivatives12
import Derived.Test.YtldgkgdgcfllmaaQFnDerivatives5
import Derived.Test.YtldgkgdgcfllmaaQFnDerivatives8
import Derived.Test.YtldgkgdgcfllmaaQFnDerivatives10
import Derived.Test.YtldgkgdgcfllmaaQFnDerivatives3
import Derived.Test.YtldgkgdgcfllmaaQFnDerivatives4
import Derived.Test.YtldgkgdgcfllmaaQFnDerivatives9
import Derived.Test.YtldgkgdgcfllmaaQFnDerivatives11
section
namespace Go.Proofs.Ytldgkgdgcfllmaa.Pl
open Go.RowKit Go.Proofs.Ytldgkgdgcfllmaa Go.Proofs.Ytldgkgdgcfllmaa.P Go.Proofs.YtldgkgdgcfllmaaW.PrintWords Go.Proofs.YtldgkgdgcfllmaaW.PrintLast Go.Proofs.YtldgkgdgcfllmaaW.PrintMore Rk
set_option linter.unusedVariables false
set_option linter.unusedSimpArgs false
theorem al_ax : ∀ (n : Nat) (x : TI), nd x < n → al x = true → ∃ y, Rg.Ax x y ∧ Rg.sz y = nd x := by
  intro n
  induction n with
  | zero => intro x h; omega
  | succ n ih =>
    intro x hn hal
    obtain ⟨k, l, xs⟩ := x
    rw [al_eq, Bool.and_eq_true] at hal
    obtain ⟨hals, hs⟩ := hal
    simp only [shp, Bool.and_eq_true, decide_eq_true_eq] at hs
    obtain ⟨hs, _⟩ := hs
    unfold argsN at hs
    match xs, hn, hals, hs with
    | [], hn, hals, hs =>
      have hk : 1 ≤ k ∧ k ≤ 4 := by
        simp only [List.length_nil] at hs
        split at hs
        · assumption
        · split at hs
          · omega
          · split at hs <;> omega
      have e1 : nd ⟨k, l, []⟩ = 1 := by rw [nd_eq, nds]
      rw [e1]
      rcases (show k = 1 ∨ k = 2 ∨ k = 3 ∨ k = 4 by omega) with rfl | rfl | rfl | rfl
      · exact ⟨_, Rg.Ax.none l, rfl⟩
      · exact ⟨_, Rg.Ax.empty l, rfl⟩
      · exact ⟨_, Rg.Ax.letter l, rfl⟩
      · exact ⟨_, Rg.Ax.any l, rfl⟩
    | [a], hn, hals, hs =>
      have hk : k = 8 ∨ k = 9 := by
        simp only [List.length_cons, List.length_nil] at hs
        split at hs
        · omega
        · split at hs
          · assumption
          · split at hs <;> omega
      have e1 : nd ⟨k, l, [a]⟩ = 1 + nd a := by rw [nd_eq]; simp only [nds]; omega
      simp only [als, Bool.and_true] at hals
      obtain ⟨y, hy, hz⟩ := ih a (by omega) hals
      rw [e1, ← hz]
      rcases hk with rfl | rfl
      · exact ⟨_, Rg.Ax.star l hy, rfl⟩
      · exact ⟨_, Rg.Ax.not l hy, rfl⟩
    | [a, b], hn, hals, hs =>
      have hk : 5 ≤ k ∧ k ≤ 7 := by
        simp only [List.length_cons, List.length_nil] at hs
        split at hs
        · omega
        · split at hs
          · omega
          · split at hs
            · assumption
            · omega
      have e1 : nd ⟨k, l, [a, b]⟩ = 1 + nd a + nd b := by rw [nd_eq]; simp only [nds]; omega
      simp only [als, Bool.and_true, Bool.and_eq_true] at hals
      obtain ⟨y, hy, hz⟩ := ih a (by omega) hals.1
      obtain ⟨z, hy2, hz2⟩ := ih b (by omega) hals.2
      rw [e1, ← hz, ← hz2]
      rcases (show k = 5 ∨ k = 6 ∨ k = 7 by omega) with rfl | rfl | rfl
      · exact ⟨_, Rg.Ax.cat l hy hy2, rfl⟩
      · exact ⟨_, Rg.Ax.or l hy hy2, rfl⟩
      · exact ⟨_, Rg.Ax.and l hy hy2, rfl⟩
    | _ :: _ :: _ :: t, hn, hals, hs =>
      simp only [List.length_cons] at hs
      exfalso
      split at hs
      · omega
      · split at hs
        · omega
        · split at hs <;> omega
theorem validR_ax {x : TI} (h : validR x = true) : ∃ y, Rg.Ax x y ∧ Rg.sz y ≤ 16 := by
  simp only [validR, Bool.and_eq_true, decide_eq_true_eq] at h
  obtain ⟨y, h1, h2⟩ := al_ax (nd x + 1) x (by omega) h.2
  exact ⟨y, h1, by omega⟩
theorem match_both (x : TI) (hx : Thin x) (hn : nd x ≤ 2000000) (s : ByteArray) (hs : s.size ≤ 140737488351232) : ∃ b, Ev (fun k => spec_MatchRegex.f k x.f0 x.f1 x.f2 s) b ∧ Ev (fun k => impl_MatchRegex.f k x.f0 x.f1 x.f2 s) b := by
  simp only [spec_MatchRegex.f, impl_MatchRegex.f]
  by_cases hv : validR x = true
  · by_cases hw : word s = true
    · obtain ⟨y, hy, hz⟩ := validR_ax hv
      have h30 : s.size ≤ 30 := by
        simp only [word, Bool.and_eq_true, decide_eq_true_eq] at hw
        exact hw.2
      have hm : Rg.matchF ⟨x.f0, x.f1, x.f2⟩ s = some (Rg.lan y (bytesOf s)) := Rg.matchF_ax (r := x) hy (by omega) (by omega)
      refine ⟨Rg.lan y (bytesOf s), Ev.bind (spec_validR x hx hn) ?_, Ev.bind (impl_validR x hx) ?_⟩
      · simp only [hv, if_true]
        refine Ev.bind (spec_word s hs) ?_
        simp only [hw, if_true]
        simp only [spec_l4Match.f, hm, Option.bind_some]
        exact Ev.now _
      · simp only [hv, if_true]
        refine Ev.bind (impl_word s hs) ?_
        simp only [hw, if_true]
        simp only [impl_matches.f, hm, Option.bind_some]
        exact Ev.now _
    · have hw : word s = false := by simpa using hw
      refine ⟨false, Ev.bind (spec_validR x hx hn) ?_, Ev.bind (impl_validR x hx) ?_⟩
      · simp only [hv, if_true]
        refine Ev.bind (spec_word s hs) ?_
        simp only [hw, Bool.false_eq_true, if_false]
        exact Ev.now _
      · simp only [hv, if_true]
        refine Ev.bind (impl_word s hs) ?_
        simp only [hw, Bool.false_eq_true, if_false]
        exact Ev.now _
  · have hv : validR x = false := by simpa using hv
    refine ⟨false, Ev.bind (spec_validR x hx hn) ?_, Ev.bind (impl_validR x hx) ?_⟩ <;> simp only [hv, Bool.false_eq_true, if_false] <;> exact Ev.now _
end Go.Proofs.Ytldgkgdgcfllmaa.Pl
end
section
namespace Go.Proofs.Ytldgkgdgcfllmaa.Rg
open Go.RowKit Go.Proofs.Ytldgkgdgcfllmaa.P Go.Proofs.Ytldgkgdgcfllmaa.Pl Go.Proofs.YtldgkgdgcfllmaaW.PrintWords Go.Proofs.YtldgkgdgcfllmaaW.PrintLast Go.Proofs.YtldgkgdgcfllmaaW.PrintMore
set_option linter.unusedVariables false
set_option linter.unusedSimpArgs false
def drv (c : ByteArray) : Rx → Rx
  | .none => .none
  | .empty => .none
  | .letter l => if l = c then .empty else .none
  | .any => .empty
  | .cat x y => if lan x [] = true then .or (.cat (drv c x) y) (drv c y) else .cat (drv c x) y
  | .or x y => .or (drv c x) (drv c y)
  | .and x y => .and (drv c x) (drv c y)
  | .star x => .cat (drv c x) (.star x)
  | .not x => .not (drv c x)
def Lt : Rx → Prop
  | .letter l => l.size = 1
  | .cat x y => Lt x ∧ Lt y
  | .or x y => Lt x ∧ Lt y
  | .and x y => Lt x ∧ Lt y
  | .star x => Lt x
  | .not x => Lt x
  | _ => True
theorem bytes_one {l : ByteArray} (h : l.size = 1) : ∃ d, bytesOf l = [d] := by
  have := len_bytes l
  rw [h] at this
  match hb : bytesOf l, this with
  | [d], _ => exact ⟨d, rfl⟩
theorem lan_or_ (x y : Rx) (w : List Int) : lan (.or x y) w = (lan x w || lan y w) := rfl
theorem lan_drv (c : ByteArray) (b : Int) (hc : bytesOf c = [b]) : ∀ (x : Rx) (w : List Int), Lt x → lan (drv c x) w = lan x (b :: w) := by
  intro x
  induction x with
  | none => intro w _; rfl
  | empty => intro w _; simp [drv, lan]
  | any => intro w _; rw [Bool.eq_iff_iff]; simp [drv, lan]
  | letter l =>
    intro w hl
    obtain ⟨d, hd⟩ := bytes_one hl
    simp only [drv]
    by_cases e : l = c
    · subst e
      rw [if_pos rfl, Bool.eq_iff_iff]
      simp [lan, hc]
    · rw [if_neg e]
      have hne : b ≠ d := fun h => e (bytes_inj (by rw [hd, hc, h]))
      rw [Bool.eq_iff_iff]
      simp [lan, hd, hne]
  | or x y ihx ihy => intro w h; simp only [drv, lan]; rw [ihx w h.1, ihy w h.2]
  | and x y ihx ihy => intro w h; simp only [drv, lan]; rw [ihx w h.1, ihy w h.2]
  | not x ih => intro w h; simp only [drv, lan]; rw [ih w h]
  | star x ih =>
    intro w h
    rw [Bool.eq_iff_iff]
    simp only [drv]
    rw [lan_cat, lan_star]
    constructor
    · rintro ⟨k, hk, h1, h2⟩
      rw [ih _ h] at h1
      exact Or.inr ⟨k + 1, by omega, by simp; omega, by simpa using h1, by simpa using h2⟩
    · rintro (h0 | ⟨k, k0, hk, h1, h2⟩)
      · cases h0
      · obtain ⟨j, rfl⟩ : ∃ j, k = j + 1 := ⟨k - 1, by omega⟩
        simp only [List.length_cons] at hk
        refine ⟨j, by omega, ?_, by simpa using h2⟩
        rw [ih _ h]
        simpa using h1
  | cat x y ihx ihy =>
    intro w h
    have key : lan (.cat (drv c x) y) w = true ↔ ∃ j, j ≤ w.length ∧ lan x (b :: w.take j) = true ∧ lan y (w.drop j) = true := by
      rw [lan_cat]
      constructor
      · rintro ⟨k, hk, h1, h2⟩; rw [ihx _ h.1] at h1; exact ⟨k, hk, h1, h2⟩
      · rintro ⟨k, hk, h1, h2⟩; exact ⟨k, hk, by rw [ihx _ h.1]; exact h1, h2⟩
    have whole : lan (.cat x y) (b :: w) = true ↔ (lan x [] = true ∧ lan y (b :: w) = true) ∨ ∃ j, j ≤ w.length ∧ lan x (b :: w.take j) = true ∧ lan y (w.drop j) = true := by
      rw [lan_cat]
      constructor
      · rintro ⟨k, hk, h1, h2⟩
        cases k with
        | zero => exact Or.inl ⟨by simpa using h1, by simpa using h2⟩
        | succ j => exact Or.inr ⟨j, by simpa using hk, by simpa using h1, by simpa using h2⟩
      · rintro (⟨h1, h2⟩ | ⟨j, hj, h1, h2⟩)
        · exact ⟨0, Nat.zero_le _, by simpa using h1, by simpa using h2⟩
        · exact ⟨j + 1, by simpa using hj, by simpa using h1, by simpa using h2⟩
    rw [Bool.eq_iff_iff, whole]
    simp only [drv]
    by_cases hn : lan x [] = true
    · rw [if_pos hn]
      simp only [lan_or_]
      rw [Bool.or_eq_true, key, ihy _ h.2]
      constructor
      · rintro (a | a)
        · exact Or.inr a
        · exact Or.inl ⟨hn, a⟩
      · rintro (a | a)
        · exact Or.inr a.2
        · exact Or.inl a
    · rw [if_neg hn, key]
      constructor
      · exact Or.inr
      · rintro (a | a)
        · exact absurd a.1 hn
        · exact a
def tr : Rx → Tr
  | .none => ⟨1, ⟨#[]⟩, []⟩
  | .empty => ⟨2, ⟨#[]⟩, []⟩
  | .letter l => ⟨3, l, []⟩
  | .any => ⟨4, ⟨#[]⟩, []⟩
  | .cat x y => ⟨5, ⟨#[]⟩, [tr x, tr y]⟩
  | .or x y => ⟨6, ⟨#[]⟩, [tr x, tr y]⟩
  | .and x y => ⟨7, ⟨#[]⟩, [tr x, tr y]⟩
  | .star x => ⟨8, ⟨#[]⟩, [tr x]⟩
  | .not x => ⟨9, ⟨#[]⟩, [tr x]⟩
theorem ax_tr : ∀ x, Ax (tr x) x
  | .none => Ax.none _
  | .empty => Ax.empty _
  | .letter l => Ax.letter _
  | .any => Ax.any _
  | .cat x y => Ax.cat _ (ax_tr x) (ax_tr y)
  | .or x y => Ax.or _ (ax_tr x) (ax_tr y)
  | .and x y => Ax.and _ (ax_tr x) (ax_tr y)
  | .star x => Ax.star _ (ax_tr x)
  | .not x => Ax.not _ (ax_tr x)
theorem ax_uniq {r : Tr} {x y : Rx} (h : Ax r x) (g : Ax r y) : x = y := by
  have h1 := ax_toRx h (sz x + sz y + 1) (by omega)
  have h2 := ax_toRx g (sz x + sz y + 1) (by omega)
  rw [h1] at h2
  exact Option.some.inj h2
theorem drv_sz (c : ByteArray) : ∀ x, sz (drv c x) ≤ sz x * sz x := by
  intro x
  induction x with
  | none => exact Nat.le_refl _
  | empty => exact Nat.le_refl _
  | letter l => unfold drv; split <;> exact Nat.le_refl _
  | any => exact Nat.le_refl _
  | or x y a b =>
    simp only [drv, sz]
    have e : (1 + sz x + sz y) * (1 + sz x + sz y) = 1 + sz x * sz x + sz y * sz y + 2 * sz x + 2 * sz y + 2 * (sz x * sz y) := by simp only [Nat.add_mul, Nat.mul_add, Nat.one_mul, Nat.mul_one, Nat.mul_comm (sz y) (sz x)]; omega
    rw [e]; omega
  | and x y a b =>
    simp only [drv, sz]
    have e : (1 + sz x + sz y) * (1 + sz x + sz y) = 1 + sz x * sz x + sz y * sz y + 2 * sz x + 2 * sz y + 2 * (sz x * sz y) := by simp only [Nat.add_mul, Nat.mul_add, Nat.one_mul, Nat.mul_one, Nat.mul_comm (sz y) (sz x)]; omega
    rw [e]; omega
  | not x a =>
    simp only [drv, sz]
    have e : (1 + sz x) * (1 + sz x) = 1 + sz x * sz x + 2 * sz x := by simp only [Nat.add_mul, Nat.mul_add, Nat.one_mul, Nat.mul_one]; omega
    rw [e]; omega
  | star x a =>
    have hp := sz_pos x
    simp only [drv, sz]
    have e : (1 + sz x) * (1 + sz x) = 1 + sz x * sz x + 2 * sz x := by simp only [Nat.add_mul, Nat.mul_add, Nat.one_mul, Nat.mul_one]; omega
    rw [e]; omega
  | cat x y a b =>
    have hp := sz_pos x
    have e : (1 + sz x + sz y) * (1 + sz x + sz y) = 1 + sz x * sz x + sz y * sz y + 2 * sz x + 2 * sz y + 2 * (sz x * sz y) := by simp only [Nat.add_mul, Nat.mul_add, Nat.one_mul, Nat.mul_one, Nat.mul_comm (sz y) (sz x)]; omega
    unfold drv
    split
    · simp only [sz]; rw [e]; omega
    · simp only [sz]; rw [e]; omega
theorem drv_lt (c : ByteArray) : ∀ x, Lt x → Lt (drv c x) := by
  intro x
  induction x with
  | none => intro _; trivial
  | empty => intro _; trivial
  | letter l => intro _; unfold drv; split <;> trivial
  | any => intro _; trivial
  | or x y a b => intro h; exact ⟨a h.1, b h.2⟩
  | and x y a b => intro h; exact ⟨a h.1, b h.2⟩
  | not x a => intro h; exact a h
  | star x a => intro h; exact ⟨a h, h⟩
  | cat x y a b =>
    intro h
    unfold drv
    split
    · exact ⟨⟨a h.1, h.2⟩, b h.2⟩
    · exact ⟨a h.1, h.2⟩
end Go.Proofs.Ytldgkgdgcfllmaa.Rg
end
section
namespace Go.Proofs.Ytldgkgdgcfllmaa.Pl
open Go.RowKit Go.Proofs.Ytldgkgdgcfllmaa Go.Proofs.Ytldgkgdgcfllmaa.P Go.Proofs.YtldgkgdgcfllmaaW.PrintWords Go.Proofs.YtldgkgdgcfllmaaW.PrintLast Go.Proofs.YtldgkgdgcfllmaaW.PrintMore Rk
set_option linter.unusedVariables false
set_option linter.unusedSimpArgs false
theorem al_tr : ∀ (n : Nat) (x : TI), nd x < n → al x = true → ∃ y, x = Rg.tr y ∧ Rg.Lt y ∧ Rg.sz y = nd x := by
  intro n
  induction n with
  | zero => intro x h; omega
  | succ n ih =>
    intro x hn hal
    obtain ⟨k, l, xs⟩ := x
    obtain ⟨y, hy, hz⟩ := al_ax (nd ⟨k, l, xs⟩ + 1) ⟨k, l, xs⟩ (Nat.lt_succ_self _) hal
    rw [al_eq, Bool.and_eq_true] at hal
    obtain ⟨hals, hs⟩ := hal
    simp only [shp, Bool.and_eq_true, decide_eq_true_eq] at hs
    obtain ⟨_, hs⟩ := hs
    rw [← hz]
    cases hy with
    | none l => simp only [Int.reduceEq, if_false, decide_eq_true_eq] at hs; subst hs; exact ⟨.none, rfl, trivial, rfl⟩
    | empty l => simp only [Int.reduceEq, if_false, decide_eq_true_eq] at hs; subst hs; exact ⟨.empty, rfl, trivial, rfl⟩
    | any l => simp only [Int.reduceEq, if_false, decide_eq_true_eq] at hs; subst hs; exact ⟨.any, rfl, trivial, rfl⟩
    | letter l => simp only [if_true, Bool.and_eq_true, decide_eq_true_eq] at hs; exact ⟨.letter l, rfl, hs.1, rfl⟩
    | @star l a x ha =>
      simp only [Int.reduceEq, if_false, decide_eq_true_eq] at hs
      subst hs
      simp only [als, Bool.and_true] at hals
      rw [nd_eq] at hn
      simp only [nds] at hn
      obtain ⟨z, hz1, hz2, hz3⟩ := ih a (by omega) hals
      have := Rg.ax_tr z
      rw [← hz1] at this
      exact ⟨.star z, by rw [hz1]; rfl, hz2, by simp only [Rg.sz]; rw [Rg.ax_uniq ha this]⟩
    | @not l a x ha =>
      simp only [Int.reduceEq, if_false, decide_eq_true_eq] at hs
      subst hs
      simp only [als, Bool.and_true] at hals
      rw [nd_eq] at hn
      simp only [nds] at hn
      obtain ⟨z, hz1, hz2, hz3⟩ := ih a (by omega) hals
      have := Rg.ax_tr z
      rw [← hz1] at this
      exact ⟨.not z, by rw [hz1]; rfl, hz2, by simp only [Rg.sz]; rw [Rg.ax_uniq ha this]⟩
    | @cat l a b x y ha hb =>
      simp only [Int.reduceEq, if_false, decide_eq_true_eq] at hs
      subst hs
      simp only [als, Bool.and_true, Bool.and_eq_true] at hals
      rw [nd_eq] at hn
      simp only [nds] at hn
      obtain ⟨z, hz1, hz2, hz3⟩ := ih a (by omega) hals.1
      obtain ⟨v, hv1, hv2, hv3⟩ := ih b (by omega) hals.2
      have h1 := Rg.ax_tr z
      rw [← hz1] at h1
      have h2 := Rg.ax_tr v
      rw [← hv1] at h2
      exact ⟨.cat z v, by rw [hz1, hv1]; rfl, ⟨hz2, hv2⟩, by simp only [Rg.sz]; rw [Rg.ax_uniq ha h1, Rg.ax_uniq hb h2]⟩
    | @or l a b x y ha hb =>
      simp only [Int.reduceEq, if_false, decide_eq_true_eq] at hs
      subst hs
      simp only [als, Bool.and_true, Bool.and_eq_true] at hals
      rw [nd_eq] at hn
      simp only [nds] at hn
      obtain ⟨z, hz1, hz2, hz3⟩ := ih a (by omega) hals.1
      obtain ⟨v, hv1, hv2, hv3⟩ := ih b (by omega) hals.2
      have h1 := Rg.ax_tr z
      rw [← hz1] at h1
      have h2 := Rg.ax_tr v
      rw [← hv1] at h2
      exact ⟨.or z v, by rw [hz1, hv1]; rfl, ⟨hz2, hv2⟩, by simp only [Rg.sz]; rw [Rg.ax_uniq ha h1, Rg.ax_uniq hb h2]⟩
    | @and l a b x y ha hb =>
      simp only [Int.reduceEq, if_false, decide_eq_true_eq] at hs
      subst hs
      simp only [als, Bool.and_true, Bool.and_eq_true] at hals
      rw [nd_eq] at hn
      simp only [nds] at hn
      obtain ⟨z, hz1, hz2, hz3⟩ := ih a (by omega) hals.1
      obtain ⟨v, hv1, hv2, hv3⟩ := ih b (by omega) hals.2
      have h1 := Rg.ax_tr z
      rw [← hz1] at h1
      have h2 := Rg.ax_tr v
      rw [← hv1] at h2
      exact ⟨.and z v, by rw [hz1, hv1]; rfl, ⟨hz2, hv2⟩, by simp only [Rg.sz]; rw [Rg.ax_uniq ha h1, Rg.ax_uniq hb h2]⟩
theorem validR_tr {x : TI} (h : validR x = true) : ∃ y, x = Rg.tr y ∧ Rg.Lt y ∧ Rg.sz y ≤ 16 := by
  simp only [validR, Bool.and_eq_true, decide_eq_true_eq] at h
  obtain ⟨y, h1, h2, h3⟩ := al_tr (nd x + 1) x (by omega) h.2
  exact ⟨y, h1, h2, by omega⟩
end Go.Proofs.Ytldgkgdgcfllmaa.Pl
end
section
namespace Go.Proofs.Ytldgkgdgcfllmaa
open Go.RowKit Go.Shelf Go.Proofs.Ytldgkgdgcfllmaa.P Go.Proofs.Ytldgkgdgcfllmaa.Pl Go.Proofs.Ytldgkgdgcfllmaa.Rg Go.Proofs.YtldgkgdgcfllmaaW.PrintWords Go.Proofs.YtldgkgdgcfllmaaW.PrintLast Go.Proofs.YtldgkgdgcfllmaaW.PrintMore
set_option linter.unusedVariables false
set_option linter.unusedSimpArgs false
theorem Tall.more : ∀ {n m : Nat} {t : Tr}, Tall n t → n ≤ m → Tall m t
  | 0, _, _, h, _ => h.elim
  | n + 1, 0, _, _, h => by omega
  | n + 1, m + 1, t, h, hm => ⟨h.1, fun a ha => Tall.more (h.2 a ha) (by omega)⟩
theorem tall_tr : ∀ y : Rx, Tall (sz y) (tr y)
  | .none => ⟨by simp [tr], fun a ha => by simp [tr] at ha⟩
  | .empty => ⟨by simp [tr], fun a ha => by simp [tr] at ha⟩
  | .letter l => ⟨by simp [tr], fun a ha => by simp [tr] at ha⟩
  | .any => ⟨by simp [tr], fun a ha => by simp [tr] at ha⟩
  | .cat x y => by
    rw [show sz (.cat x y) = (sz x + sz y) + 1 by simp only [sz]; omega]
    refine ⟨by simp [tr], fun a ha => ?_⟩
    simp only [tr, List.mem_cons, List.not_mem_nil, or_false] at ha
    rcases ha with rfl | rfl
    · exact (tall_tr x).more (by omega)
    · exact (tall_tr y).more (by omega)
  | .or x y => by
    rw [show sz (.or x y) = (sz x + sz y) + 1 by simp only [sz]; omega]
    refine ⟨by simp [tr], fun a ha => ?_⟩
    simp only [tr, List.mem_cons, List.not_mem_nil, or_false] at ha
    rcases ha with rfl | rfl
    · exact (tall_tr x).more (by omega)
    · exact (tall_tr y).more (by omega)
  | .and x y => by
    rw [show sz (.and x y) = (sz x + sz y) + 1 by simp only [sz]; omega]
    refine ⟨by simp [tr], fun a ha => ?_⟩
    simp only [tr, List.mem_cons, List.not_mem_nil, or_false] at ha
    rcases ha with rfl | rfl
    · exact (tall_tr x).more (by omega)
    · exact (tall_tr y).more (by omega)
  | .star x => by
    rw [show sz (.star x) = sz x + 1 by simp only [sz]; omega]
    exact ⟨by simp [tr], fun a ha => by simp only [tr, List.mem_cons, List.not_mem_nil, or_false] at ha; rw [ha]; exact tall_tr x⟩
  | .not x => by
    rw [show sz (.not x) = sz x + 1 by simp only [sz]; omega]
    exact ⟨by simp [tr], fun a ha => by simp only [tr, List.mem_cons, List.not_mem_nil, or_false] at ha; rw [ha]; exact tall_tr x⟩
def drT (l : ByteArray) (a : Tr) : Tr := tr (drv l ((toRx 200 a).getD .none))
theorem drT_tr (l : ByteArray) (y : Rx) (h : sz y < 200) : drT l (tr y) = tr (drv l y) := by unfold drT; rw [ax_toRx (ax_tr y) 200 h]; rfl
theorem deAll (l : ByteArray) : ∀ y : Rx, sz y ≤ 100 → CT 56 l (tr y) (tr (drv l y)) := by
  have many : ∀ (k : Int) (hk : k = 6 ∨ k = 7 ∨ k = 9) (ys : List Rx), ys.length ≤ 2 → (∀ y ∈ ys, sz y ≤ 100 ∧ CT 56 l (tr y) (tr (drv l y))) → CT 56 l ⟨k, ⟨#[]⟩, ys.map tr⟩ ⟨k, ⟨#[]⟩, ys.map fun y => tr (drv l y)⟩ := fun k hk ys hl h => by
    have := deMany l ⟨#[]⟩ k hk (ys.map tr) (drT l) (by rw [List.length_map]; omega) (fun a ha => by
      obtain ⟨y, hy, rfl⟩ := List.mem_map.1 ha
      rw [drT_tr l y (by have := (h y hy).1; omega)]
      exact (h y hy).2)
    rw [List.map_map] at this
    have e : ys.map (drT l ∘ tr) = ys.map fun y => tr (drv l y) := List.map_congr_left (fun y hy => drT_tr l y (by have := (h y hy).1; omega))
    rw [e] at this
    exact this
  intro y
  induction y with
  | none => intro _; exact deLeaf l _ 1 _ (.inl ⟨.inl rfl, rfl⟩)
  | empty => intro _; exact deLeaf l _ 2 _ (.inl ⟨.inr rfl, rfl⟩)
  | any => intro _; exact deLeaf l _ 4 _ (.inr (.inl ⟨rfl, rfl⟩))
  | letter c => intro _; exact deLeaf l c 3 _ (.inr (.inr ⟨rfl, by simp only [drv]; split <;> rfl⟩))
  | or x y a b => intro h; simp only [sz] at h; exact many 6 (.inl rfl) [x, y] (by simp) (by simp; exact ⟨⟨by omega, a (by omega)⟩, by omega, b (by omega)⟩)
  | and x y a b => intro h; simp only [sz] at h; exact many 7 (.inr (.inl rfl)) [x, y] (by simp) (by simp; exact ⟨⟨by omega, a (by omega)⟩, by omega, b (by omega)⟩)
  | not x a => intro h; simp only [sz] at h; exact many 9 (.inr (.inr rfl)) [x] (by simp) (by simp; exact ⟨by omega, a (by omega)⟩)
  | star x a => intro h; have ht := tall_tr (.star x); simp only [sz] at h; exact deStar _ l _ (tr x) (tr (drv l x)) ht (a (by omega))
  | cat x y a b =>
    intro h
    simp only [sz] at h
    have := deCat _ l ⟨#[]⟩ (tr x) (tr y) (tr (drv l x)) (tr (drv l y)) x (ax_tr x) (by omega) (tall_tr y) (a (by omega)) (b (by omega))
    simp only [drv]
    split at this
    · rename_i e; rw [if_pos e]; exact this
    · rename_i e; rw [if_neg e]; exact this
theorem dsAll (l : ByteArray) : ∀ y : Rx, sz y ≤ 100 → CT 55 l (tr y) (tr (drv l y)) := by
  have many : ∀ (k : Int) (hk : k = 6 ∨ k = 7 ∨ k = 9) (ys : List Rx), ys.length ≤ 2 → (∀ y ∈ ys, sz y ≤ 100 ∧ CT 55 l (tr y) (tr (drv l y))) → CT 55 l ⟨k, ⟨#[]⟩, ys.map tr⟩ ⟨k, ⟨#[]⟩, ys.map fun y => tr (drv l y)⟩ := fun k hk ys hl h => by
    have := dsMany l ⟨#[]⟩ k hk (ys.map tr) (drT l) (by rw [List.length_map]; omega) (fun a ha => by
      obtain ⟨y, hy, rfl⟩ := List.mem_map.1 ha
      rw [drT_tr l y (by have := (h y hy).1; omega)]
      exact (h y hy).2)
    rw [List.map_map] at this
    have e : ys.map (drT l ∘ tr) = ys.map fun y => tr (drv l y) := List.map_congr_left (fun y hy => drT_tr l y (by have := (h y hy).1; omega))
    rw [e] at this
    exact this
  intro y
  induction y with
  | none => intro _; exact dsLeaf l _ 1 _ (.inl ⟨.inl rfl, rfl⟩)
  | empty => intro _; exact dsLeaf l _ 2 _ (.inl ⟨.inr rfl, rfl⟩)
  | any => intro _; exact dsLeaf l _ 4 _ (.inr (.inl ⟨rfl, rfl⟩))
  | letter c => intro _; exact dsLeaf l c 3 _ (.inr (.inr ⟨rfl, by simp only [drv]; split <;> rfl⟩))
  | or x y a b => intro h; simp only [sz] at h; exact many 6 (.inl rfl) [x, y] (by simp) (by simp; exact ⟨⟨by omega, a (by omega)⟩, by omega, b (by omega)⟩)
  | and x y a b => intro h; simp only [sz] at h; exact many 7 (.inr (.inl rfl)) [x, y] (by simp) (by simp; exact ⟨⟨by omega, a (by omega)⟩, by omega, b (by omega)⟩)
  | not x a => intro h; simp only [sz] at h; exact many 9 (.inr (.inr rfl)) [x] (by simp) (by simp; exact ⟨by omega, a (by omega)⟩)
  | star x a => intro h; have ht := tall_tr (.star x); simp only [sz] at h; exact dsStar _ l _ (tr x) (tr (drv l x)) ht (a (by omega))
  | cat x y a b =>
    intro h
    simp only [sz] at h
    have := dsCat _ l ⟨#[]⟩ (tr x) (tr y) (tr (drv l x)) (tr (drv l y)) x (ax_tr x) (by omega) (tall_tr y) (a (by omega)) (b (by omega))
    simp only [drv]
    split at this
    · rename_i e; rw [if_pos e]; exact this
    · rename_i e; rw [if_neg e]; exact this
def dofT (s : ByteArray) (x : TI) : TI := if validR x = true ∧ s.size = 1 ∧ word s = true then drT s x else ⟨0, ⟨#[]⟩, []⟩
set_option maxHeartbeats 4000000 in
set_option maxRecDepth 100000 in
theorem doImpl (x : TI) (hx : Thin x) (hn : nd x ≤ 2000000) (s : ByteArray) (hs : s.size ≤ 140737488351232) : CT 30 s x (dofT s x) := by
  intro A c w hC hc
  obtain ⟨k1, hk1⟩ := (impl_validR x hx).rounds
  obtain ⟨k2, hk2⟩ := (impl_word s hs).rounds
  have HD : Aside0 (validR x = true → ∀ w', Below w.heap.size w w' → Calls Try.prog 56 #[tv x A c, .string s] w' (PT w' (drT s x))) := ⟨fun hv w' hb => by
    obtain ⟨y, rfl, hl, hz⟩ := validR_tr hv
    rw [drT_tr s y (by omega)]
    exact deAll s y (by omega) A c w' (Kd.C_below hC hb) hc⟩
  have H1 := am_ hk1
  have H2 := am_ hk2
  have HC := am_ hC
  have HL := am_ hc
  have H := Sl.start w
  have hu := Try.underlying29
  obtain ⟨q, hq⟩ : ∃ q, q = dofT s x := ⟨_, rfl⟩
  rw [← hq]
  unfold dofT at hq
  clear hC hc hk1 hk2 hx hn
  by_cases hv : validR x = true
  rotate_left
  · have hv2 : validR x = false := by simpa using hv
    rw [if_neg (fun h => hv h.1)] at hq
    subst hq
    rw [hv2] at H1
    clear hv hv2 HD
    go_enter Try.func30, Try.ntmps30
    go_wp2_with (first | (refine nw_ H 2 (tb x A c) 29 rfl ?_; clear H; intro g1 w1 H) | (refine nw_ H 4 zt 29 rfl ?_; clear H; intro g2 w1 H; have F0 := H.f3 0) |
      ((with_reducible refine gate_callee (f := 18) rfl ?_); refine gL_ (some 6) Try.func18 #[tv x A c] ?_; refine (impl_IsValidRegex.calls k1 x.f0 x.f1 A c x.f2 false _ (Kd.C_below HC.out H.bel) HL.out H1.out).mono ?_; rintro e w2 ⟨rfl, hb⟩; replace H := H.only hb; clear hb F0; have F0 := H.f3 0; have F1 := H.f3 1; refine ⟨_, rfl, ?_⟩) | (refine p3_ H 4 1 rfl ?_; clear H F0 F1; intro w1 H))
    refine bodyPost_ret (results_cell_row rfl _ _ g2 29 _ (0, 0) _ rfl (H.blk 1 rfl) hu rfl (by kernel_rfl)) rfl ?_
    exact ⟨_, rfl, (sub_nil H).one 2⟩
  rw [hv] at H1
  replace HD := am_ (HD.out hv)
  by_cases h1 : s.size = 1
  rotate_left
  · have e1 : decide ((s.size : Int) = 1) = false := decide_eq_false (by omega)
    have e2 : ((s.size : Int) = 1) = False := eq_false (by omega)
    have e3 : ((s.size : Int) == 1) = false := by simpa using e2
    have e4 : ((s.size : Int) != 1) = true := by simp only [bne, e3]; rfl
    rw [if_neg (fun h => h1 h.2.1)] at hq
    subst hq
    clear hv h1 HD
    go_enter Try.func30, Try.ntmps30
    go_wp2_with (first | (refine nw_ H 2 (tb x A c) 29 rfl ?_; clear H; intro g1 w1 H) | (refine nw_ H 4 zt 29 rfl ?_; clear H; intro g2 w1 H; have F0 := H.f3 0) |
      ((with_reducible refine gate_callee (f := 18) rfl ?_); refine gL_ (some 6) Try.func18 #[tv x A c] ?_; refine (impl_IsValidRegex.calls k1 x.f0 x.f1 A c x.f2 true _ (Kd.C_below HC.out H.bel) HL.out H1.out).mono ?_; rintro e w2 ⟨rfl, hb⟩; replace H := H.only hb; clear hb F0; have F0 := H.f3 0; have F1 := H.f3 1; refine ⟨_, rfl, ?_⟩) | (refine p3_ H 4 1 rfl ?_; clear H F0 F1; intro w1 H))
    refine bodyPost_ret (results_cell_row rfl _ _ g2 29 _ (0, 0) _ rfl (H.blk 1 rfl) hu rfl (by kernel_rfl)) rfl ?_
    exact ⟨_, rfl, (sub_nil H).one 2⟩
  have e1 : decide ((s.size : Int) = 1) = true := decide_eq_true (by omega)
  have e2 : ((s.size : Int) = 1) = True := eq_true (by omega)
  have e3 : ((s.size : Int) == 1) = true := by simpa using e2
  have e4 : ((s.size : Int) != 1) = false := by simp only [bne, e3]; rfl
  by_cases hw : word s = true
  · rw [if_pos ⟨hv, h1, hw⟩] at hq
    rw [← hq] at HD
    rw [hw] at H2
    clear hv h1 hw hq
    go_enter Try.func30, Try.ntmps30
    go_wp2_with (first | (refine nw_ H 2 (tb x A c) 29 rfl ?_; clear H; intro g1 w1 H) | (refine nw_ H 4 zt 29 rfl ?_; clear H; intro g2 w1 H; have F0 := H.f3 0) |
      ((with_reducible refine gate_callee (f := 18) rfl ?_); refine gL_ (some 6) Try.func18 #[tv x A c] ?_; refine (impl_IsValidRegex.calls k1 x.f0 x.f1 A c x.f2 true _ (Kd.C_below HC.out H.bel) HL.out H1.out).mono ?_; rintro e w2 ⟨rfl, hb⟩; replace H := H.only hb; clear hb F0; have F0 := H.f3 0; have F1 := H.f3 1; refine ⟨_, rfl, ?_⟩) |
      (go_at_call 53; (with_reducible refine (impl_IsWord.calls k2 s true _ H2.out).mono ?_); rintro e w2 ⟨rfl, hb⟩; replace H := H.only hb.below; clear hb F0 F1; have F0 := H.f3 0) |
      ((with_reducible refine gate_callee (f := 56) rfl ?_); refine gL_ (some 21) Try.func56 #[tv x A c, .string s] ?_; refine (HD.out _ H.bel).mono ?_; rintro e w2 ⟨v2, rfl, H3⟩; obtain ⟨A3, c3, rfl, -, -⟩ := H3.tv 0; replace H := H.call H3; clear H3 F0; have F1 := H.f3 1; refine ⟨_, rfl, ?_⟩) | (refine p3_ H 4 1 rfl ?_; clear H F1; intro w1 H))
    refine bodyPost_ret (results_cell_row rfl _ _ g2 29 _ (0, 0) _ rfl (H.blk 1 rfl) hu rfl (by kernel_rfl)) rfl ?_
    exact ⟨_, rfl, H.one 2⟩
  · have hw2 : word s = false := by simpa using hw
    rw [if_neg (fun h => hw h.2.2)] at hq
    subst hq
    rw [hw2] at H2
    clear hv h1 hw hw2 HD
    go_enter Try.func30, Try.ntmps30
    go_wp2_with (first | (refine nw_ H 2 (tb x A c) 29 rfl ?_; clear H; intro g1 w1 H) | (refine nw_ H 4 zt 29 rfl ?_; clear H; intro g2 w1 H; have F0 := H.f3 0) |
      ((with_reducible refine gate_callee (f := 18) rfl ?_); refine gL_ (some 6) Try.func18 #[tv x A c] ?_; refine (impl_IsValidRegex.calls k1 x.f0 x.f1 A c x.f2 true _ (Kd.C_below HC.out H.bel) HL.out H1.out).mono ?_; rintro e w2 ⟨rfl, hb⟩; replace H := H.only hb; clear hb F0; have F0 := H.f3 0; have F1 := H.f3 1; refine ⟨_, rfl, ?_⟩) |
      (go_at_call 53; (with_reducible refine (impl_IsWord.calls k2 s false _ H2.out).mono ?_); rintro e w2 ⟨rfl, hb⟩; replace H := H.only hb.below; clear hb F0 F1; have F1 := H.f3 1) | (refine p3_ H 4 1 rfl ?_; clear H F1; intro w1 H))
    refine bodyPost_ret (results_cell_row rfl _ _ g2 29 _ (0, 0) _ rfl (H.blk 1 rfl) hu rfl (by kernel_rfl)) rfl ?_
    exact ⟨_, rfl, (sub_nil H).one 2⟩
set_option maxHeartbeats 4000000 in
set_option maxRecDepth 100000 in
theorem doSpec (x : TI) (hx : Thin x) (hn : nd x ≤ 2000000) (s : ByteArray) (hs : s.size ≤ 140737488351232) : CT 29 s x (dofT s x) := by
  intro A c w hC hc
  obtain ⟨k1, hk1⟩ := (spec_validR x hx hn).rounds
  obtain ⟨k2, hk2⟩ := (spec_word s hs).rounds
  have HD : Aside0 (validR x = true → ∀ w', Below w.heap.size w w' → Calls Try.prog 55 #[tv x A c, .string s] w' (PT w' (drT s x))) := ⟨fun hv w' hb => by
    obtain ⟨y, rfl, hl, hz⟩ := validR_tr hv
    rw [drT_tr s y (by omega)]
    exact dsAll s y (by omega) A c w' (Kd.C_below hC hb) hc⟩
  have H1 := am_ hk1
  have H2 := am_ hk2
  have HC := am_ hC
  have HL := am_ hc
  have H := Sl.start w
  have hu := Try.underlying29
  obtain ⟨q, hq⟩ : ∃ q, q = dofT s x := ⟨_, rfl⟩
  rw [← hq]
  unfold dofT at hq
  clear hC hc hk1 hk2 hx hn
  by_cases hv : validR x = true
  rotate_left
  · have hv2 : validR x = false := by simpa using hv
    rw [if_neg (fun h => hv h.1)] at hq
    subst hq
    rw [hv2] at H1
    clear hv hv2 HD
    go_enter Try.func29, Try.ntmps29
    go_wp2_with (first | (refine nw_ H 2 (tb x A c) 29 rfl ?_; clear H; intro g1 w1 H) | (refine nw_ H 4 zt 29 rfl ?_; clear H; intro g2 w1 H; have F0 := H.f3 0) |
      ((with_reducible refine gate_callee (f := 17) rfl ?_); refine gL_ (some 6) Try.func17 #[tv x A c] ?_; refine (spec_IsValidRegex.calls k1 x.f0 x.f1 A c x.f2 false _ (Kd.C_below HC.out H.bel) HL.out H1.out).mono ?_; rintro e w2 ⟨rfl, hb⟩; replace H := H.only hb; clear hb F0; have F0 := H.f3 0; have F1 := H.f3 1; refine ⟨_, rfl, ?_⟩) | (refine p3_ H 4 1 rfl ?_; clear H F0 F1; intro w1 H))
    refine bodyPost_ret (results_cell_row rfl _ _ g2 29 _ (0, 0) _ rfl (H.blk 1 rfl) hu rfl (by kernel_rfl)) rfl ?_
    exact ⟨_, rfl, (sub_nil H).one 2⟩
  rw [hv] at H1
  replace HD := am_ (HD.out hv)
  by_cases h1 : s.size = 1
  rotate_left
  · have e1 : decide ((s.size : Int) = 1) = false := decide_eq_false (by omega)
    have e2 : ((s.size : Int) = 1) = False := eq_false (by omega)
    have e3 : ((s.size : Int) == 1) = false := by simpa using e2
    have e4 : ((s.size : Int) != 1) = true := by simp only [bne, e3]; rfl
    rw [if_neg (fun h => h1 h.2.1)] at hq
    subst hq
    clear hv h1 HD
    go_enter Try.func29, Try.ntmps29
    go_wp2_with (first | (refine nw_ H 2 (tb x A c) 29 rfl ?_; clear H; intro g1 w1 H) | (refine nw_ H 4 zt 29 rfl ?_; clear H; intro g2 w1 H; have F0 := H.f3 0) |
      ((with_reducible refine gate_callee (f := 17) rfl ?_); refine gL_ (some 6) Try.func17 #[tv x A c] ?_; refine (spec_IsValidRegex.calls k1 x.f0 x.f1 A c x.f2 true _ (Kd.C_below HC.out H.bel) HL.out H1.out).mono ?_; rintro e w2 ⟨rfl, hb⟩; replace H := H.only hb; clear hb F0; have F0 := H.f3 0; have F1 := H.f3 1; refine ⟨_, rfl, ?_⟩) | (refine p3_ H 4 1 rfl ?_; clear H F0 F1; intro w1 H))
    refine bodyPost_ret (results_cell_row rfl _ _ g2 29 _ (0, 0) _ rfl (H.blk 1 rfl) hu rfl (by kernel_rfl)) rfl ?_
    exact ⟨_, rfl, (sub_nil H).one 2⟩
  have e1 : decide ((s.size : Int) = 1) = true := decide_eq_true (by omega)
  have e2 : ((s.size : Int) = 1) = True := eq_true (by omega)
  have e3 : ((s.size : Int) == 1) = true := by simpa using e2
  have e4 : ((s.size : Int) != 1) = false := by simp only [bne, e3]; rfl
  by_cases hw : word s = true
  · rw [if_pos ⟨hv, h1, hw⟩] at hq
    rw [← hq] at HD
    rw [hw] at H2
    clear hv h1 hw hq
    go_enter Try.func29, Try.ntmps29
    go_wp2_with (first | (refine nw_ H 2 (tb x A c) 29 rfl ?_; clear H; intro g1 w1 H) | (refine nw_ H 4 zt 29 rfl ?_; clear H; intro g2 w1 H; have F0 := H.f3 0) |
      ((with_reducible refine gate_callee (f := 17) rfl ?_); refine gL_ (some 6) Try.func17 #[tv x A c] ?_; refine (spec_IsValidRegex.calls k1 x.f0 x.f1 A c x.f2 true _ (Kd.C_below HC.out H.bel) HL.out H1.out).mono ?_; rintro e w2 ⟨rfl, hb⟩; replace H := H.only hb; clear hb F0; have F0 := H.f3 0; have F1 := H.f3 1; refine ⟨_, rfl, ?_⟩) |
      (go_at_call 51; (with_reducible refine (spec_IsWord.calls k2 s true _ H2.out).mono ?_); rintro e w2 ⟨rfl, hb⟩; replace H := H.only hb.below; clear hb F0 F1; have F0 := H.f3 0) |
      ((with_reducible refine gate_callee (f := 55) rfl ?_); refine gL_ (some 21) Try.func55 #[tv x A c, .string s] ?_; refine (HD.out _ H.bel).mono ?_; rintro e w2 ⟨v2, rfl, H3⟩; obtain ⟨A3, c3, rfl, -, -⟩ := H3.tv 0; replace H := H.call H3; clear H3 F0; have F1 := H.f3 1; refine ⟨_, rfl, ?_⟩) | (refine p3_ H 4 1 rfl ?_; clear H F1; intro w1 H))
    refine bodyPost_ret (results_cell_row rfl _ _ g2 29 _ (0, 0) _ rfl (H.blk 1 rfl) hu rfl (by kernel_rfl)) rfl ?_
    exact ⟨_, rfl, H.one 2⟩
  · have hw2 : word s = false := by simpa using hw
    rw [if_neg (fun h => hw h.2.2)] at hq
    subst hq
    rw [hw2] at H2
    clear hv h1 hw hw2 HD
    go_enter Try.func29, Try.ntmps29
    go_wp2_with (first | (refine nw_ H 2 (tb x A c) 29 rfl ?_; clear H; intro g1 w1 H) | (refine nw_ H 4 zt 29 rfl ?_; clear H; intro g2 w1 H; have F0 := H.f3 0) |
      ((with_reducible refine gate_callee (f := 17) rfl ?_); refine gL_ (some 6) Try.func17 #[tv x A c] ?_; refine (spec_IsValidRegex.calls k1 x.f0 x.f1 A c x.f2 true _ (Kd.C_below HC.out H.bel) HL.out H1.out).mono ?_; rintro e w2 ⟨rfl, hb⟩; replace H := H.only hb; clear hb F0; have F0 := H.f3 0; have F1 := H.f3 1; refine ⟨_, rfl, ?_⟩) |
      (go_at_call 51; (with_reducible refine (spec_IsWord.calls k2 s false _ H2.out).mono ?_); rintro e w2 ⟨rfl, hb⟩; replace H := H.only hb.below; clear hb F0 F1; have F1 := H.f3 1) | (refine p3_ H 4 1 rfl ?_; clear H F1; intro w1 H))
    refine bodyPost_ret (results_cell_row rfl _ _ g2 29 _ (0, 0) _ rfl (H.blk 1 rfl) hu rfl (by kernel_rfl)) rfl ?_
    exact ⟨_, rfl, (sub_nil H).one 2⟩
end Go.Proofs.Ytldgkgdgcfllmaa
end
section
namespace Go.Proofs.Ytldgkgdgcfllmaa
open Go.RowKit Go.Shelf Go.Proofs.Ytldgkgdgcfllmaa.P Go.Proofs.Ytldgkgdgcfllmaa.Rg Go.Proofs.YtldgkgdgcfllmaaW.PrintWords Go.Proofs.YtldgkgdgcfllmaaW.PrintLast Go.Proofs.YtldgkgdgcfllmaaW.PrintMore
set_option linter.unusedVariables false
theorem own_raise {w : World} {base : Nat} {e : TypeId} {size n : Nat} {v : Value} {xs : List Value} (h : w.ownsRow 0 e size v n xs) (hb : ∀ k, v.ownBlock = some k → base ≤ k) : w.ownsRow base e size v n xs := by
  obtain ⟨h1, h2⟩ := h
  refine ⟨h1, ?_⟩
  rcases h2 with h2 | ⟨g, cap, cur, rfl, hg, r⟩
  · exact .inl h2
  · exact .inr ⟨g, cap, cur, rfl, hb g rfl, r⟩
section
variable {w : World} {base : Nat}
mutual
theorem Own.kd : ∀ {v : Value} {ts : List Tr} {fp : List Nat} (_ : Own w v ts fp) (ok : Nat → Prop), fp.Nodup → (∀ k ∈ fp, base ≤ k ∧ ok k) → Kd.R k29 29 w base ok v ts
  | _, _, _, .mk (v := v) (fs := fs) (cs := cs) h ho, ok, hn, hk => by
    obtain ⟨n1, n2, n3⟩ := List.nodup_append.1 hn
    refine ⟨fun k hb => (hk k (List.mem_append_left _ (by rw [hb]; exact List.mem_singleton.2 rfl))).2, cs, own_raise ho (fun k hb => (hk k (List.mem_append_left _ (by rw [hb]; exact List.mem_singleton.2 rfl))).1), ?_⟩
    exact OwnL.kd h _ n2 (fun k hk' => ⟨(hk k (List.mem_append_right _ hk')).1, (hk k (List.mem_append_right _ hk')).2, fun e => n3 k (by rw [← e]; exact List.mem_singleton.2 rfl) k hk' rfl⟩)
theorem OwnL.kd : ∀ {cs : List Value} {ts : List Tr} {fp : List Nat} (_ : OwnL w cs ts fp) (ok : Nat → Prop), fp.Nodup → (∀ k ∈ fp, base ≤ k ∧ ok k) → Reps (k29.M w base ok) 3 ts cs
  | _, _, _, .nil, _, _, _ => Reps.none _ _
  | _, _, _, .cons (t := t) h1 h2, ok, hn, hk => by
    obtain ⟨n1, n2, n3⟩ := List.nodup_append.1 hn
    have hk1 := k29_mkM w base ok t (Own.kd h1 ok n1 (fun k hk' => hk k (List.mem_append_left _ hk')))
    have h3 := OwnL.kd h2 ok n2 (fun k hk' => hk k (List.mem_append_right _ hk'))
    refine ⟨by have := h3.1; simp only [List.length_cons]; omega, fun j p hp => ?_⟩
    cases j with
    | zero =>
      obtain rfl := Option.some.inj hp
      exact hk1
    | succ j =>
      have := h3.2 j p (by simpa using hp)
      rw [show (j + 1) * 3 = j * 3 + 1 + 1 + 1 by omega]
      exact this
end
theorem tre_R {w' : World} {v : Value} {ts : List Tr} (H : Sl w w' [tre v ts]) : Kd.R k29 29 w' w.heap.size (fun _ => True) v ts := by
  obtain ⟨f, hf, hn, hg⟩ := H.get 0 rfl
  exact Own.kd hf _ hn (fun k hk => ⟨hg k hk, trivial⟩)
end
mutual
def thB : Tr → Bool
  | ⟨_, s, l⟩ => decide (l.length ≤ 1048576) && (decide (s.size ≤ 1048576) && thBs l)
def thBs : List Tr → Bool
  | [] => true
  | x :: l => thB x && thBs l
end
theorem thB_ok : ∀ {x : Tr}, Pl.Thin x → thB x = true := fun {x} h => by
  induction h with
  | mk x hl hs hc ih =>
    obtain ⟨a, s, l⟩ := x
    have : ∀ m : List Tr, (∀ y ∈ m, thB y = true) → thBs m = true := by
      intro m
      induction m with
      | nil => intro _; rw [thBs]
      | cons y m ihm => intro h; rw [thBs, h y (by simp), ihm (fun z hz => h z (by simp [hz]))]; rfl
    rw [thB, this l ih, decide_eq_true hl, decide_eq_true hs]
    rfl
theorem thBs_mem : ∀ {m : List Tr} {y : Tr}, thBs m = true → y ∈ m → thB y = true
  | [], _, _, h => by cases h
  | z :: m, y, h, hy => by
    rw [thBs, Bool.and_eq_true] at h
    rcases List.mem_cons.1 hy with rfl | hy
    · exact h.1
    · exact thBs_mem h.2 hy
theorem thin_thB : ∀ (n : Nat) (x : Tr), Pl.nd x ≤ n → thB x = true → Pl.Thin x
  | 0, x, h, _ => absurd (Pl.nd_pos x) (by omega)
  | n + 1, ⟨a, s, l⟩, h, ht => by
    rw [thB, Bool.and_eq_true, Bool.and_eq_true, decide_eq_true_eq, decide_eq_true_eq] at ht
    rw [Pl.nd_eq] at h
    exact Pl.Thin.mk _ ht.1 ht.2.1 (fun y hy => thin_thB n y (by have := Pl.nd_mem (show y ∈ l from hy); have h : 1 + Pl.nds l ≤ n + 1 := h; omega) (thBs_mem ht.2.2 hy))
end Go.Proofs.Ytldgkgdgcfllmaa
end
section
namespace Go.Proofs.Ytldgkgdgcfllmaa.P
open Go.RowKit Go.Proofs.YtldgkgdgcfllmaaW.PrintWords Go.Proofs.YtldgkgdgcfllmaaW.PrintLast Go.Proofs.YtldgkgdgcfllmaaW.PrintMore
attribute [local go_sem] max2_int min2_int max_two min_two max_three min_three max_four min_four
set_option linter.unusedVariables false
set_option linter.unusedSimpArgs false
def spec_DerivativeOf.f (k : Nat) (a0_0 : Int) (a0_1 : ByteArray) (l0_2 : List S29) (a1 : ByteArray) : Option (Int × ByteArray × List S29) := if thB ⟨a0_0, a0_1, l0_2⟩ = true ∧ Pl.nd ⟨a0_0, a0_1, l0_2⟩ ≤ 2000000 ∧ a1.size ≤ 140737488351232 then some ((dofT a1 ⟨a0_0, a0_1, l0_2⟩).f0, (dofT a1 ⟨a0_0, a0_1, l0_2⟩).f1, (dofT a1 ⟨a0_0, a0_1, l0_2⟩).f2) else none
theorem spec_DerivativeOf.mono : ∀ a0 a1 a2 a3 k, LeO (spec_DerivativeOf.f k a0 a1 a2 a3) (spec_DerivativeOf.f (k + 1) a0 a1 a2 a3) := fun _ _ _ _ _ => LeO.refl _
theorem spec_DerivativeOf.calls (k : Nat) (a0_0 : Int) (a0_1 : ByteArray) (A0_2 : Option Addr) (c0_2 : Nat) (l0_2 : List S29) (a1 : ByteArray) (r1 : Int) (r2 : ByteArray) (r3 : List S29) (w : World) (hr0_2 : Kd.C k29 w A0_2 l0_2.length l0_2) (hc0_2 : l0_2.length ≤ c0_2) (h : spec_DerivativeOf.f k a0_0 a0_1 l0_2 a1 = some (r1, r2, r3)) :
    Calls Try.prog 29 #[.agg #[.int .i64 a0_0, .string a0_1, .slice A0_2 l0_2.length c0_2], .string a1] w fun e w' => ∃ v2_ : Value, e = .returned (.agg #[.int .i64 r1, .string r2, v2_]) ∧ Kd.R k29 29 w' w.heap.size (fun _ => True) v2_ r3 ∧ Below w.heap.size w w' := by
  unfold spec_DerivativeOf.f at h
  split at h
  · rename_i hp
    have h := Option.some.inj h
    have e1 := congrArg Prod.fst h
    have e2 := congrArg (fun x => x.2.1) h
    have e3 := congrArg (fun x => x.2.2) h
    simp only at e1 e2 e3
    rw [← e1, ← e2, ← e3]
    refine (doSpec ⟨a0_0, a0_1, l0_2⟩ (thin_thB _ _ (Nat.le_refl _) hp.1) hp.2.1 a1 hp.2.2 A0_2 c0_2 w hr0_2 hc0_2).mono ?_
    rintro e w' ⟨v, rfl, H⟩
    exact ⟨v, rfl, tre_R H, H.bel⟩
  · cases h
end Go.Proofs.Ytldgkgdgcfllmaa.P
end
section
namespace Go.Proofs.Ytldgkgdgcfllmaa.P
open Go.RowKit Go.Proofs.YtldgkgdgcfllmaaW.PrintWords Go.Proofs.YtldgkgdgcfllmaaW.PrintLast Go.Proofs.YtldgkgdgcfllmaaW.PrintMore
attribute [local go_sem] max2_int min2_int max_two min_two max_three min_three max_four min_four
set_option linter.unusedVariables false
set_option linter.unusedSimpArgs false
def impl_DerivativeOf.f (k : Nat) (a0_0 : Int) (a0_1 : ByteArray) (l0_2 : List S29) (a1 : ByteArray) : Option (Int × ByteArray × List S29) := if thB ⟨a0_0, a0_1, l0_2⟩ = true ∧ Pl.nd ⟨a0_0, a0_1, l0_2⟩ ≤ 2000000 ∧ a1.size ≤ 140737488351232 then some ((dofT a1 ⟨a0_0, a0_1, l0_2⟩).f0, (dofT a1 ⟨a0_0, a0_1, l0_2⟩).f1, (dofT a1 ⟨a0_0, a0_1, l0_2⟩).f2) else none
theorem impl_DerivativeOf.mono : ∀ a0 a1 a2 a3 k, LeO (impl_DerivativeOf.f k a0 a1 a2 a3) (impl_DerivativeOf.f (k + 1) a0 a1 a2 a3) := fun _ _ _ _ _ => LeO.refl _
theorem impl_DerivativeOf.calls (k : Nat) (a0_0 : Int) (a0_1 : ByteArray) (A0_2 : Option Addr) (c0_2 : Nat) (l0_2 : List S29) (a1 : ByteArray) (r1 : Int) (r2 : ByteArray) (r3 : List S29) (w : World) (hr0_2 : Kd.C k29 w A0_2 l0_2.length l0_2) (hc0_2 : l0_2.length ≤ c0_2) (h : impl_DerivativeOf.f k a0_0 a0_1 l0_2 a1 = some (r1, r2, r3)) :
    Calls Try.prog 30 #[.agg #[.int .i64 a0_0, .string a0_1, .slice A0_2 l0_2.length c0_2], .string a1] w fun e w' => ∃ v2_ : Value, e = .returned (.agg #[.int .i64 r1, .string r2, v2_]) ∧ Kd.R k29 29 w' w.heap.size (fun _ => True) v2_ r3 ∧ Below w.heap.size w w' := by
  unfold impl_DerivativeOf.f at h
  split at h
  · rename_i hp
    have h := Option.some.inj h
    have e1 := congrArg Prod.fst h
    have e2 := congrArg (fun x => x.2.1) h
    have e3 := congrArg (fun x => x.2.2) h
    simp only at e1 e2 e3
    rw [← e1, ← e2, ← e3]
    refine (doImpl ⟨a0_0, a0_1, l0_2⟩ (thin_thB _ _ (Nat.le_refl _) hp.1) hp.2.1 a1 hp.2.2 A0_2 c0_2 w hr0_2 hc0_2).mono ?_
    rintro e w' ⟨v, rfl, H⟩
    exact ⟨v, rfl, tre_R H, H.bel⟩
  · cases h
end Go.Proofs.Ytldgkgdgcfllmaa.P
end
section
namespace Go.Proofs.Ytldgkgdgcfllmaa.P
open Go.RowKit Go.Proofs.YtldgkgdgcfllmaaW.PrintWords Go.Proofs.YtldgkgdgcfllmaaW.PrintLast Go.Proofs.YtldgkgdgcfllmaaW.PrintMore
attribute [local go_sem] max2_int min2_int max_two min_two max_three min_three max_four min_four
set_option linter.unusedVariables false
set_option linter.unusedSimpArgs false
def laws_big.f (l0 : List Int) : Option (Bool) := some (decide ((l0.length : Int) > 1048576))
set_option maxHeartbeats 8000000 in
set_option maxRecDepth 100000 in
theorem laws_big.calls (A0 : Option Addr) (c0 : Nat) (l0 : List Int) (r : Bool) (w : World) (hr0 : Kd.C (Kd.int .u8) w A0 l0.length l0) (hc0 : l0.length ≤ c0) (h : laws_big.f l0 = some r) :
    Calls Try.prog 31 #[.slice A0 l0.length c0] w fun e w' => e = .returned (.bool r) ∧ Drawn0 w w' := by
  have HR0 := am_ hr0
  have HC0 := am_ hc0
  clear hr0 hc0
  have H : (some (decide ((l0.length : Int) > 1048576))) = some r := h
  clear h
  obtain rfl := Option.some.inj H
  simp only [Option.some.injEq, Prod.mk.injEq] at H
  obtain ⟨rfl⟩ := H
  go_enter Try.func31, Try.ntmps31
  go_wp2
  go_ret
  exact ⟨by first | rfl | (simp; done) | (simp [*]; done), by repeat (first | exact Drawn0.refl _ | apply Drawn0.step)⟩
def IsS93 (w0 W : World) (g : Nat) (f0 : List Int) (f1 : Int) (f2 : Int) : Prop := ∃ A0 c0, W.heap[g]? = some (.cells #[.slice A0 f0.length c0, .int .i64 f1, .int .i64 f2] 93 (0, 0)) ∧ w0.heap.size ≤ g ∧ Kd.C (Kd.int .u8) w0 A0 f0.length f0
theorem IsS93.grown {w0 W : World} {g : Nat} {f0 : List Int} {f1 : Int} {f2 : Int} {W1 : World} {row : Option Nat} (h : IsS93 w0 W g f0 f1 f2) (hw : W.grownBy W1 row) (hne : some g ≠ row) : IsS93 w0 W1 g f0 f1 f2 := by
  obtain ⟨A0, c0, hb, hg, hr0⟩ := h
  exact ⟨A0, c0, blk_grown hb hw hne, hg, hr0⟩
theorem IsS93.own_neN {w0 W : World} {g : Nat} {f0 : List Int} {f1 : Int} {f2 : Int} {α : Type} {d : Kd α} {e : Nat} {base : Nat} {ok : Nat → Prop} {v : Value} {xs : List α} (h : IsS93 w0 W g f0 f1 f2) (ho : Kd.N d e W base ok v xs) (ht : e ≠ 93) : some g ≠ v.ownBlock := by
  obtain ⟨A0, c0, hb, hg, hr0⟩ := h
  exact Kd.N_ne ho hb ht
theorem IsS93.fresh {w0 W : World} {g : Nat} {f0 : List Int} {f1 : Int} {f2 : Int} (h : IsS93 w0 W g f0 f1 f2) : ∀ k, W.heap.size ≤ k → k ≠ g := by
  obtain ⟨A0, c0, hb, hg, hr0⟩ := h
  exact Kd.freshB hb
theorem IsS93.kept {w0 W : World} {g : Nat} {f0 : List Int} {f1 : Int} {f2 : Int} {W1 : World} {S : Nat → Prop} (h : IsS93 w0 W g f0 f1 f2) (hk : Kept W W1 S) (hne : ¬ S g) : IsS93 w0 W1 g f0 f1 f2 := by
  obtain ⟨A0, c0, hb, hg, hr0⟩ := h
  exact ⟨A0, c0, blk_kept hb hk hne, hg, hr0⟩
theorem IsS93.below {w0 W : World} {g : Nat} {f0 : List Int} {f1 : Int} {f2 : Int} {W1 : World} (h : IsS93 w0 W g f0 f1 f2) (hw : Below W.heap.size W W1) : IsS93 w0 W1 g f0 f1 f2 := h.grown (grown_of_below hw none) (by simp)
theorem IsS93.alloc {w0 W : World} {g : Nat} {f0 : List Int} {f1 : Int} {f2 : Int} (h : IsS93 w0 W g f0 f1 f2) (o : Obj) : IsS93 w0 (W.alloc o) g f0 f1 f2 := h.below (below_alloc (Below.refl _ _) o)
theorem IsS93.drewN {w0 W : World} {g : Nat} {f0 : List Int} {f1 : Int} {f2 : Int} (h : IsS93 w0 W g f0 f1 f2) (m : Nat) : IsS93 w0 (W.drewN m) g f0 f1 f2 := h
theorem IsS93.drew {w0 W : World} {g : Nat} {f0 : List Int} {f1 : Int} {f2 : Int} (h : IsS93 w0 W g f0 f1 f2) : IsS93 w0 W.drew g f0 f1 f2 := h
theorem IsS93.at_ {w0 W : World} {g : Nat} {f0 : List Int} {f1 : Int} {f2 : Int} {w' : World} {m : Nat} (hq : W.drewN m = w') (h : IsS93 w0 W g f0 f1 f2) : IsS93 w0 w' g f0 f1 f2 := by subst hq; exact IsS93.drewN h m
theorem IsS93.apart {w0 W : World} {g : Nat} {f0 : List Int} {f1 : Int} {f2 : Int} {α : Type} {d : Kd α} {e : Nat} {base : Nat} {ok : Nat → Prop} {v : Value} {xs : List α} (h : IsS93 w0 W g f0 f1 f2) (ho : d.R e W base ok v xs) (ht : ∀ q, q ∈ e :: d.E → q ≠ 93) : d.R e W base (fun k => ok k ∧ k ≠ g) v xs := by
  obtain ⟨A0, c0, hb, hg, hr0⟩ := h
  exact Kd.R_types ho hb ht
theorem IsS93.own_ne {w0 W : World} {g : Nat} {f0 : List Int} {f1 : Int} {f2 : Int} {α : Type} {d : Kd α} {e : Nat} {base : Nat} {ok : Nat → Prop} {v : Value} {xs : List α} (h : IsS93 w0 W g f0 f1 f2) (ho : d.R e W base ok v xs) (ht : e ≠ 93) : some g ≠ v.ownBlock := by
  obtain ⟨A0, c0, hb, hg, hr0⟩ := h
  exact Kd.R_ne ho hb ht
theorem IsS93.lt {w0 W : World} {g : Nat} {f0 : List Int} {f1 : Int} {f2 : Int} (h : IsS93 w0 W g f0 f1 f2) : g < W.heap.size := by
  obtain ⟨A0, c0, hb, hg, hr0⟩ := h
  exact blk_lt hb
theorem IsS93.ge {w0 W : World} {g : Nat} {f0 : List Int} {f1 : Int} {f2 : Int} (h : IsS93 w0 W g f0 f1 f2) : w0.heap.size ≤ g := by
  obtain ⟨A0, c0, hb, hg, hr0⟩ := h
  exact hg
theorem IsS93.ne_blk {w0 W : World} {g : Nat} {f0 : List Int} {f1 : Int} {f2 : Int} {a : Nat} {cs : Array Value} {t : TypeId} {fr : Nat × Nat} (h : IsS93 w0 W g f0 f1 f2) (hb2 : W.heap[a]? = some (.cells cs t fr)) (ht : t ≠ 93) : g ≠ a := by
  obtain ⟨A0, c0, hb, hg, hr0⟩ := h
  rintro rfl
  rw [hb] at hb2
  injection hb2 with hb2
  injection hb2 with _ ht2
  exact ht ht2.symm
theorem IsS93.far {w0 W : World} {g : Nat} {f0 : List Int} {f1 : Int} {f2 : Int} {p : Addr} (h : IsS93 w0 W g f0 f1 f2) (hne : g ≠ p.block) (u : Value) : IsS93 w0 (W.setCell p u) g f0 f1 f2 := by
  obtain ⟨A0, c0, hb, hg, hr0⟩ := h
  exact ⟨A0, c0, blk_far hb hne u, hg, hr0⟩
theorem cellS93_0 {W : World} {g : Nat} {A0 : Option Addr} {c0 : Nat} {f0 : List Int} {f1 : Int} {f2 : Int} (h : W.heap[g]? = some (.cells #[.slice A0 f0.length c0, .int .i64 f1, .int .i64 f2] 93 (0, 0))) : W.cell? ⟨g, 0, none⟩ = some (.slice A0 f0.length c0) := (blk_cell h 0).trans rfl
theorem cellS93_1 {W : World} {g : Nat} {A0 : Option Addr} {c0 : Nat} {f0 : List Int} {f1 : Int} {f2 : Int} (h : W.heap[g]? = some (.cells #[.slice A0 f0.length c0, .int .i64 f1, .int .i64 f2] 93 (0, 0))) : W.cell? ⟨g, 1, none⟩ = some (.int .i64 f1) := (blk_cell h 1).trans rfl
theorem IsS93.set_1 {w0 W : World} {g : Nat} {f0 : List Int} {f1 : Int} {f2 : Int} (h : IsS93 w0 W g f0 f1 f2) (x : Int) : IsS93 w0 (W.setCell ⟨g, 1, none⟩ (.int .i64 x)) g f0 x f2 := by
  obtain ⟨A0, c0, hb, hg, hr0⟩ := h
  exact ⟨A0, c0, by simpa using blk_set hb 1 (.int .i64 x), hg, hr0⟩
theorem cellS93_2 {W : World} {g : Nat} {A0 : Option Addr} {c0 : Nat} {f0 : List Int} {f1 : Int} {f2 : Int} (h : W.heap[g]? = some (.cells #[.slice A0 f0.length c0, .int .i64 f1, .int .i64 f2] 93 (0, 0))) : W.cell? ⟨g, 2, none⟩ = some (.int .i64 f2) := (blk_cell h 2).trans rfl
theorem IsS93.set_2 {w0 W : World} {g : Nat} {f0 : List Int} {f1 : Int} {f2 : Int} (h : IsS93 w0 W g f0 f1 f2) (x : Int) : IsS93 w0 (W.setCell ⟨g, 2, none⟩ (.int .i64 x)) g f0 f1 x := by
  obtain ⟨A0, c0, hb, hg, hr0⟩ := h
  exact ⟨A0, c0, by simpa using blk_set hb 2 (.int .i64 x), hg, hr0⟩
theorem IsS93.new (w0 W : World) (A0 : Option Addr) (c0 : Nat) (f0 : List Int) (f1 : Int) (f2 : Int) (hB : Below w0.heap.size w0 W) (hr0 : Kd.C (Kd.int .u8) w0 A0 f0.length f0) : IsS93 w0 (W.alloc (.cells #[.slice A0 f0.length c0, .int .i64 f1, .int .i64 f2] 93)) W.heap.size f0 f1 f2 := ⟨A0, c0, by simpa using heap_alloc_new W _, hB.size, hr0⟩
def spec_l1Byte.f (s0_0 : List Int) (s0_1 : Int) (s0_2 : Int) : Option (Int × Int × Int) := if s0_1 < (s0_0.length : Int) then (if 0 ≤ s0_1 then (some (Go.bits .and .i64 (wrap64 ((Go.bits .and .i64 (Go.bits .xor .i64 ((wrap64 ((wrap64 (s0_2 * 6364136223846793005)) + 1442695040888963407)) / 8589934592) ((wrap64 ((wrap64 (s0_2 * 6364136223846793005)) + 1442695040888963407)) / 35184372088832)) 255) + (wrap64 (rd s0_0 s0_1)))) 255, wrap64 (s0_1 + 1), wrap64 ((wrap64 (s0_2 * 6364136223846793005)) + 1442695040888963407))) else (none)) else (some (Go.bits .and .i64 (Go.bits .xor .i64 ((wrap64 ((wrap64 (s0_2 * 6364136223846793005)) + 1442695040888963407)) / 8589934592) ((wrap64 ((wrap64 (s0_2 * 6364136223846793005)) + 1442695040888963407)) / 35184372088832)) 255, s0_1, wrap64 ((wrap64 (s0_2 * 6364136223846793005)) + 1442695040888963407)))
theorem zp44_0_ {p q : Prop} (h : p) (c : p → q := by intro h_; repeat (first | (with_reducible first | exact h_ | apply IsS93.alloc | apply IsS93.drewN | apply IsS93.drew | apply IsS93.set_1 | apply IsS93.set_2) | exact h_)) : q := c h
theorem zp44_1_ {p q g1 : Prop} (h : p) (h1 : g1) (c : p → g1 → q := by intro h_ h1_; repeat (first | (with_reducible first | exact h_ | apply below_alloc | apply pw_below_drewN | apply below_drew1 | refine below_set ?_ h1_) | exact h_)) : q := c h h1
theorem zp44_2_ {p q : Prop} (h : p) (c : p → q := by intro h_; repeat (first | (with_reducible first | exact h_ | apply KeepBut.set_ | apply keep_drewN | apply keep_drew | apply keep_alloc) | exact h_)) : q := c h
set_option maxHeartbeats 8000000 in
set_option maxRecDepth 100000 in
theorem spec_l1Byte.calls (g : Nat) (s0_0 : List Int) (s0_1 : Int) (s0_2 : Int) (r1 : Int) (r2 : Int) (r3 : Int) (w0 w : World) (hI : IsS93 w0 w g s0_0 s0_1 s0_2) (hB : Below w0.heap.size w0 w) (h : spec_l1Byte.f s0_0 s0_1 s0_2 = some (r1, r2, r3)) :
    Calls Try.prog 83 #[.pointer (some ⟨g, 0, none⟩)] w fun e w' => e = .returned (.int .i64 r1) ∧ IsS93 w0 w' g s0_0 r2 r3 ∧ Below w0.heap.size w0 w' ∧ KeepBut w w' g none := by
  have HI0 := am_ hI
  have HK := am_ (KeepBut.refl w g none)
  have HL := am_ hB.size
  clear hI
  have HW0 := am_ hB.size
  have HB := am_ hB
  clear hB
  have H : (if s0_1 < (s0_0.length : Int) then (if 0 ≤ s0_1 then (some (Go.bits .and .i64 (wrap64 ((Go.bits .and .i64 (Go.bits .xor .i64 ((wrap64 ((wrap64 (s0_2 * 6364136223846793005)) + 1442695040888963407)) / 8589934592) ((wrap64 ((wrap64 (s0_2 * 6364136223846793005)) + 1442695040888963407)) / 35184372088832)) 255) + (wrap64 (rd s0_0 s0_1)))) 255, wrap64 (s0_1 + 1), wrap64 ((wrap64 (s0_2 * 6364136223846793005)) + 1442695040888963407))) else (none)) else (some (Go.bits .and .i64 (Go.bits .xor .i64 ((wrap64 ((wrap64 (s0_2 * 6364136223846793005)) + 1442695040888963407)) / 8589934592) ((wrap64 ((wrap64 (s0_2 * 6364136223846793005)) + 1442695040888963407)) / 35184372088832)) 255, s0_1, wrap64 ((wrap64 (s0_2 * 6364136223846793005)) + 1442695040888963407)))) = some (r1, r2, r3) := h
  clear h
  by_cases c2 : s0_1 < (s0_0.length : Int)
  · rw [if_pos c2] at H
    have c2b0 : decide (s0_1 < (s0_0.length : Int)) = true := decide_eq_true c2
    clear c2
    by_cases c3 : 0 ≤ s0_1
    · rw [if_pos c3] at H
      have c3b0 : decide (0 ≤ s0_1) = true := decide_eq_true c3
      clear c3
      simp only [Option.some.injEq, Prod.mk.injEq] at H
      obtain ⟨rfl, rfl, rfl⟩ := H
      obtain ⟨ASz4_0, cSz4_0, HGz4, hgz4, HSz4_0⟩ := HI0.out
      have aF := cellS93_0 HGz4
      have aG := cellS93_1 HGz4
      have aH := cellS93_2 HGz4
      have aI := blk_frozen HGz4 1
      have aJ := blk_frozen HGz4 2
      clear HGz4 hgz4
      have p725 : 0 ≤ (s0_1 : Int) := of_decide_eq_true ah_
      have q725 : s0_1 < (s0_0.length : Int) := of_decide_eq_true ah_
      obtain ⟨aq, e725, aa⟩ := Kd.at_int HSz4_0 s0_1 p725 q725
      cases e725
      have hn725_0 : aq.block ≠ g := Nat.ne_of_lt (Nat.lt_of_lt_of_le (by have := World.block_lt_of_cell? _ _ aa; first | rwa [add_block] at this | exact this) (IsS93.ge HI0.out))
      replace aa := pw_cell_below HB.out aa
      replace aa := (cell_far (p := ⟨g, 2, none⟩) (by first | (rw [add_block]; exact hn725_0) | (show (Addr.add _ _).block ≠ _; rw [add_block]; exact hn725_0) | exact hn725_0) (.int .i64 (wrap64 ((wrap64 (s0_2 * 6364136223846793005)) + 1442695040888963407)))).trans aa
      (try have hy725_0 := fun (n_ : Nat) => (show (((w.drewN n_).setCell ⟨g, 2, none⟩ (.int .i64 (wrap64 ((wrap64 (s0_2 * 6364136223846793005)) + 1442695040888963407))))).cell? _ = some _ from aa))
      clear hn725_0
      replace p725 := eq_true p725
      replace q725 := eq_true q725
      go_enter Try.func83, Try.ntmps83
      go_wp2
      repeat (go_quiet (fail); try go_wp2)
      go_ret
      exact ⟨by first | rfl | (simp [errW_none, errW_some] <;> rfl) | (simp [*, errW_none, errW_some] <;> rfl), by exact zp44_0_ HI0.out, by exact zp44_1_ HB.out (IsS93.ge HI0.out), by exact zp44_2_ HK.out⟩
    · rw [if_neg c3] at H
      exact absurd H (by simp)
  · rw [if_neg c2] at H
    have c2b0 : decide (s0_1 < (s0_0.length : Int)) = false := decide_eq_false c2
    clear c2
    simp only [Option.some.injEq, Prod.mk.injEq] at H
    obtain ⟨rfl, rfl, rfl⟩ := H
    obtain ⟨ASz5_0, cSz5_0, HGz5, hgz5, HSz5_0⟩ := HI0.out
    have aK := cellS93_0 HGz5
    have aL := cellS93_1 HGz5
    have aM := cellS93_2 HGz5
    have aN := blk_frozen HGz5 1
    have aO := blk_frozen HGz5 2
    clear HGz5 hgz5
    go_enter Try.func83, Try.ntmps83
    go_wp2
    repeat (go_quiet (fail); try go_wp2)
    go_ret
    exact ⟨by first | rfl | (simp [errW_none, errW_some] <;> rfl) | (simp [*, errW_none, errW_some] <;> rfl), by exact zp44_0_ HI0.out, by exact zp44_1_ HB.out (IsS93.ge HI0.out), by exact zp44_2_ HK.out⟩
def spec_l1Below.f (s0_0 : List Int) (s0_1 : Int) (s0_2 : Int) (a1 : Int) : Option (Int × Int × Int) := if a1 ≤ 0 then (some (0, s0_1, s0_2)) else (if a1 ≤ 256 then ((spec_l1Byte.f s0_0 s0_1 s0_2).bind fun bt726 => (if a1 = 0 then (none) else (some (Int.tmod bt726.1 a1, bt726.2.1, bt726.2.2)))) else ((spec_l1Byte.f s0_0 s0_1 s0_2).bind fun bt729 => ((spec_l1Byte.f s0_0 bt729.2.1 bt729.2.2).bind fun bt732 => ((spec_l1Byte.f s0_0 bt732.2.1 bt732.2.2).bind fun bt735 => ((spec_l1Byte.f s0_0 bt735.2.1 bt735.2.2).bind fun bt738 => (if a1 = 0 then (none) else (some (Int.tmod (wrap64 ((wrap64 ((wrap64 ((wrap64 (bt729.1 * 16777216)) + (wrap64 (bt732.1 * 65536)))) + (wrap64 (bt735.1 * 256)))) + bt738.1)) a1, bt738.2.1, bt738.2.2))))))))
set_option maxHeartbeats 8000000 in
set_option maxRecDepth 100000 in
theorem spec_l1Below.calls (g : Nat) (s0_0 : List Int) (s0_1 : Int) (s0_2 : Int) (a1 : Int) (r1 : Int) (r2 : Int) (r3 : Int) (w0 w : World) (hI : IsS93 w0 w g s0_0 s0_1 s0_2) (hB : Below w0.heap.size w0 w) (h : spec_l1Below.f s0_0 s0_1 s0_2 a1 = some (r1, r2, r3)) :
    Calls Try.prog 62 #[.pointer (some ⟨g, 0, none⟩), .int .i64 a1] w fun e w' => e = .returned (.int .i64 r1) ∧ IsS93 w0 w' g s0_0 r2 r3 ∧ Below w0.heap.size w0 w' ∧ KeepBut w w' g none := by
  have HI0 := am_ hI
  have HK := am_ (KeepBut.refl w g none)
  have HL := am_ hB.size
  clear hI
  have HW0 := am_ hB.size
  have HB := am_ hB
  clear hB
  have H : (if a1 ≤ 0 then (some (0, s0_1, s0_2)) else (if a1 ≤ 256 then ((spec_l1Byte.f s0_0 s0_1 s0_2).bind fun bt726 => (if a1 = 0 then (none) else (some (Int.tmod bt726.1 a1, bt726.2.1, bt726.2.2)))) else ((spec_l1Byte.f s0_0 s0_1 s0_2).bind fun bt729 => ((spec_l1Byte.f s0_0 bt729.2.1 bt729.2.2).bind fun bt732 => ((spec_l1Byte.f s0_0 bt732.2.1 bt732.2.2).bind fun bt735 => ((spec_l1Byte.f s0_0 bt735.2.1 bt735.2.2).bind fun bt738 => (if a1 = 0 then (none) else (some (Int.tmod (wrap64 ((wrap64 ((wrap64 ((wrap64 (bt729.1 * 16777216)) + (wrap64 (bt732.1 * 65536)))) + (wrap64 (bt735.1 * 256)))) + bt738.1)) a1, bt738.2.1, bt738.2.2))))))))) = some (r1, r2, r3) := h
  clear h
  by_cases c3 : a1 ≤ 0
  · rw [if_pos c3] at H
    have c3b0 : decide (a1 ≤ 0) = true := decide_eq_true c3
    clear c3
    simp only [Option.some.injEq, Prod.mk.injEq] at H
    obtain ⟨rfl, rfl, rfl⟩ := H
    go_enter Try.func62, Try.ntmps62
    go_wp2
    go_ret
    exact ⟨by first | rfl | (simp [errW_none, errW_some] <;> rfl) | (simp [*, errW_none, errW_some] <;> rfl), by exact zp44_0_ HI0.out, by exact zp44_1_ HB.out (IsS93.ge HI0.out), by exact zp44_2_ HK.out⟩
  · rw [if_neg c3] at H
    have c3b0 : decide (a1 ≤ 0) = false := decide_eq_false c3
    clear c3
    by_cases c4 : a1 ≤ 256
    · rw [if_pos c4] at H
      have c4b0 : decide (a1 ≤ 256) = true := decide_eq_true c4
      clear c4
      replace H := Option.bind_eq_some_iff.mp H
      obtain ⟨⟨au, av, aw⟩, A50, H⟩ := H
      have A5 := am_ A50
      clear A50
      by_cases c6 : a1 = 0
      · rw [if_pos c6] at H
        exact absurd H (by simp)
      · rw [if_neg c6] at H
        have c6b0 : (a1 == 0) = false := beq_eq_false_iff_ne.mpr c6
        have c6b1 : (a1 != 0) = true := bne_iff_ne.mpr c6
        simp only [Option.some.injEq, Prod.mk.injEq] at H
        obtain ⟨rfl, rfl, rfl⟩ := H
        go_enter Try.func62, Try.ntmps62
        go_wp2_with (first | ((with_reducible refine gate_callee (f := 83) rfl ?_); refine gL_ (some 14) Try.func83 #[.pointer (some ⟨g, 0, none⟩)] ?_; (with_reducible refine (spec_l1Byte.calls g s0_0 s0_1 s0_2 au av aw w0 _ ?side1 ?side2 A5.out).mono ?_); (case side1 => exact zp44_0_ HI0.out); (case side2 => exact zp44_1_ HB.out (IsS93.ge HI0.out)); rintro e w7 ⟨rfl, hi, hb, hk⟩; refine ⟨_, rfl, ?_⟩; have n0_ := am_ (KeepBut.trans (k0_ HK.out) hk (.inl rfl)); have n1_ := am_ (hb); have n2_ := am_ (hi); clear HK; clear HB; clear HI0; have HK := n0_; have HB := n1_; have HI0 := n2_; clear n0_ n1_ n2_; (try clear hb); (try clear hb2); (try clear hk); (try clear hi)))
        go_ret
        exact ⟨by first | rfl | (simp [errW_none, errW_some] <;> rfl) | (simp [*, errW_none, errW_some] <;> rfl), by exact zp44_0_ HI0.out, by exact zp44_1_ HB.out (IsS93.ge HI0.out), by exact zp44_2_ HK.out⟩
    · rw [if_neg c4] at H
      have c4b0 : decide (a1 ≤ 256) = false := decide_eq_false c4
      clear c4
      replace H := Option.bind_eq_some_iff.mp H
      obtain ⟨⟨ax, af, ag⟩, A80, H⟩ := H
      have A8 := am_ A80
      clear A80
      replace H := Option.bind_eq_some_iff.mp H
      obtain ⟨⟨ay, ah, ai⟩, A90, H⟩ := H
      have A9 := am_ A90
      clear A90
      replace H := Option.bind_eq_some_iff.mp H
      obtain ⟨⟨az, aj, ak⟩, al, H⟩ := H
      have A10 := am_ al
      clear al
      replace H := Option.bind_eq_some_iff.mp H
      obtain ⟨⟨aA, aB, aC⟩, am, H⟩ := H
      have A11 := am_ am
      clear am
      by_cases c12 : a1 = 0
      · rw [if_pos c12] at H
        exact absurd H (by simp)
      · rw [if_neg c12] at H
        have c12b0 : (a1 == 0) = false := beq_eq_false_iff_ne.mpr c12
        have c12b1 : (a1 != 0) = true := bne_iff_ne.mpr c12
        simp only [Option.some.injEq, Prod.mk.injEq] at H
        obtain ⟨rfl, rfl, rfl⟩ := H
        go_enter Try.func62, Try.ntmps62
        go_wp2_with (first | ((with_reducible refine gate_callee (f := 83) rfl ?_); refine gL_ (some 18) Try.func83 #[.pointer (some ⟨g, 0, none⟩)] ?_; (with_reducible refine (spec_l1Byte.calls g s0_0 s0_1 s0_2 ax af ag w0 _ ?side1 ?side2 A8.out).mono ?_); (case side1 => exact zp44_0_ HI0.out); (case side2 => exact zp44_1_ HB.out (IsS93.ge HI0.out)); rintro e w13 ⟨rfl, hi, hb, hk⟩; refine ⟨_, rfl, ?_⟩; have n0_ := am_ (KeepBut.trans (k0_ HK.out) hk (.inl rfl)); have n1_ := am_ (hb); have n2_ := am_ (hi); clear HK; clear HB; clear HI0; have HK := n0_; have HB := n1_; have HI0 := n2_; clear n0_ n1_ n2_; (try clear hb); (try clear hb2); (try clear hk); (try clear hi)) | ((with_reducible refine gate_callee (f := 83) rfl ?_); refine gL_ (some 20) Try.func83 #[.pointer (some ⟨g, 0, none⟩)] ?_; (with_reducible refine (spec_l1Byte.calls g s0_0 af ag ay ah ai w0 _ ?side1 ?side2 A9.out).mono ?_); (case side1 => exact zp44_0_ HI0.out); (case side2 => exact zp44_1_ HB.out (IsS93.ge HI0.out)); rintro e w14 ⟨rfl, hi, hb, hk⟩; refine ⟨_, rfl, ?_⟩; have n0_ := am_ (KeepBut.trans (k0_ HK.out) hk (.inl rfl)); have n1_ := am_ (hb); have n2_ := am_ (hi); clear HK; clear HB; clear HI0; have HK := n0_; have HB := n1_; have HI0 := n2_; clear n0_ n1_ n2_; (try clear hb); (try clear hb2); (try clear hk); (try clear hi)) | ((with_reducible refine gate_callee (f := 83) rfl ?_); refine gL_ (some 22) Try.func83 #[.pointer (some ⟨g, 0, none⟩)] ?_; (with_reducible refine (spec_l1Byte.calls g s0_0 ah ai az aj ak w0 _ ?side1 ?side2 A10.out).mono ?_); (case side1 => exact zp44_0_ HI0.out); (case side2 => exact zp44_1_ HB.out (IsS93.ge HI0.out)); rintro e w15 ⟨rfl, hi, hb, hk⟩; refine ⟨_, rfl, ?_⟩; have n0_ := am_ (KeepBut.trans (k0_ HK.out) hk (.inl rfl)); have n1_ := am_ (hb); have n2_ := am_ (hi); clear HK; clear HB; clear HI0; have HK := n0_; have HB := n1_; have HI0 := n2_; clear n0_ n1_ n2_; (try clear hb); (try clear hb2); (try clear hk); (try clear hi)) | ((with_reducible refine gate_callee (f := 83) rfl ?_); refine gL_ (some 24) Try.func83 #[.pointer (some ⟨g, 0, none⟩)] ?_; (with_reducible refine (spec_l1Byte.calls g s0_0 aj ak aA aB aC w0 _ ?side1 ?side2 A11.out).mono ?_); (case side1 => exact zp44_0_ HI0.out); (case side2 => exact zp44_1_ HB.out (IsS93.ge HI0.out)); rintro e w16 ⟨rfl, hi, hb, hk⟩; refine ⟨_, rfl, ?_⟩; have n0_ := am_ (KeepBut.trans (k0_ HK.out) hk (.inl rfl)); have n1_ := am_ (hb); have n2_ := am_ (hi); clear HK; clear HB; clear HI0; have HK := n0_; have HB := n1_; have HI0 := n2_; clear n0_ n1_ n2_; (try clear hb); (try clear hb2); (try clear hk); (try clear hi)))
        go_ret
        exact ⟨by first | rfl | (simp [errW_none, errW_some] <;> rfl) | (simp [*, errW_none, errW_some] <;> rfl), by exact zp44_0_ HI0.out, by exact zp44_1_ HB.out (IsS93.ge HI0.out), by exact zp44_2_ HK.out⟩
def spec_l1Pick.f (s0_0 : List Int) (s0_1 : Int) (s0_2 : Int) (l1 : List ByteArray) : Option (ByteArray × Int × Int) := (spec_l1Below.f s0_0 s0_1 s0_2 (l1.length : Int)).bind fun bt741 => (if 0 ≤ bt741.1 then (if bt741.1 < (l1.length : Int) then (some (rdOf ByteArray.empty l1 bt741.1, bt741.2.1, bt741.2.2)) else (none)) else (none))
set_option maxHeartbeats 8000000 in
set_option maxRecDepth 100000 in
theorem spec_l1Pick.calls (g : Nat) (s0_0 : List Int) (s0_1 : Int) (s0_2 : Int) (A1 : Option Addr) (c1 : Nat) (l1 : List ByteArray) (r1 : ByteArray) (r2 : Int) (r3 : Int) (w0 w : World) (hI : IsS93 w0 w g s0_0 s0_1 s0_2) (hB : Below w0.heap.size w0 w) (hr1 : Kd.C Kd.string w A1 l1.length l1) (hc1 : l1.length ≤ c1) (hf1 : ∀ ad, A1 = some ad → 0 < l1.length → ad.block ≠ g) (h : spec_l1Pick.f s0_0 s0_1 s0_2 l1 = some (r1, r2, r3)) :
    Calls Try.prog 60 #[.pointer (some ⟨g, 0, none⟩), .slice A1 l1.length c1] w fun e w' => e = .returned (.string r1) ∧ IsS93 w0 w' g s0_0 r2 r3 ∧ Below w0.heap.size w0 w' ∧ KeepBut w w' g none := by
  have HR1 := am_ hr1
  have HC1 := am_ hc1
  clear hr1 hc1
  have HI0 := am_ hI
  have HK := am_ (KeepBut.refl w g none)
  have HL := am_ hB.size
  clear hI
  have HW0 := am_ hB.size
  have HB := am_ hB
  clear hB
  have H : ((spec_l1Below.f s0_0 s0_1 s0_2 (l1.length : Int)).bind fun bt741 => (if 0 ≤ bt741.1 then (if bt741.1 < (l1.length : Int) then (some (rdOf ByteArray.empty l1 bt741.1, bt741.2.1, bt741.2.2)) else (none)) else (none))) = some (r1, r2, r3) := h
  clear h
  replace H := Option.bind_eq_some_iff.mp H
  obtain ⟨⟨ab, aD, aE⟩, A30, H⟩ := H
  have A3 := am_ A30
  clear A30
  by_cases c4 : 0 ≤ ab
  · rw [if_pos c4] at H
    have c4b0 : decide (0 ≤ ab) = true := decide_eq_true c4
    clear c4
    by_cases c5 : ab < (l1.length : Int)
    · rw [if_pos c5] at H
      have c5b0 : decide (ab < (l1.length : Int)) = true := decide_eq_true c5
      clear c5
      simp only [Option.some.injEq, Prod.mk.injEq] at H
      obtain ⟨rfl, rfl, rfl⟩ := H
      go_enter Try.func60, Try.ntmps60
      go_wp2_with (first | ((with_reducible refine gate_callee (f := 62) rfl ?_); refine gL_ (some 9) Try.func62 #[.pointer (some ⟨g, 0, none⟩), .int .i64 (l1.length : Int)] ?_; (with_reducible refine (spec_l1Below.calls g s0_0 s0_1 s0_2 (l1.length : Int) ab aD aE w0 _ ?side1 ?side2 A3.out).mono ?_); (case side1 => exact zp44_0_ HI0.out); (case side2 => exact zp44_1_ HB.out (IsS93.ge HI0.out)); rintro e w6 ⟨rfl, hi, hb, hk⟩; refine ⟨_, rfl, ?_⟩; have n0_ := am_ (KeepBut.trans (k0_ HK.out) hk (.inl rfl)); have n1_ := am_ (hb); have n2_ := am_ (hi); clear HK; clear HB; clear HI0; have HK := n0_; have HB := n1_; have HI0 := n2_; clear n0_ n1_ n2_; (try clear hb); (try clear hb2); (try clear hk); (try clear hi); have p744 : 0 ≤ (ab : Int) := of_decide_eq_true ah_; have q744 : ab < (l1.length : Int) := of_decide_eq_true ah_; obtain ⟨ar, e744, ae⟩ := Kd.at_string HR1.out ab p744 q744; cases e744; replace ae := keep_cell HK.out ae (by first | (rw [add_block]; exact hf1 _ rfl (by omega)) | exact hf1 _ rfl (by omega) | exact hf1 ar rfl (by omega)); replace p744 := eq_true p744; replace q744 := eq_true q744))
      go_ret
      exact ⟨by first | rfl | (simp [errW_none, errW_some] <;> rfl) | (simp [*, errW_none, errW_some] <;> rfl), by exact zp44_0_ HI0.out, by exact zp44_1_ HB.out (IsS93.ge HI0.out), by exact zp44_2_ HK.out⟩
    · rw [if_neg c5] at H
      exact absurd H (by simp)
  · rw [if_neg c4] at H
    exact absurd H (by simp)
def spec_l1Once.f (s0_0 : List Int) (s0_1 : Int) (s0_2 : Int) (a1 : Int) : Option (Bool × Int × Int) := (spec_l1Below.f s0_0 s0_1 s0_2 a1).bind fun bt745 => (some ((bt745.1 == 0), bt745.2.1, bt745.2.2))
set_option maxHeartbeats 8000000 in
set_option maxRecDepth 100000 in
theorem spec_l1Once.calls (g : Nat) (s0_0 : List Int) (s0_1 : Int) (s0_2 : Int) (a1 : Int) (r1 : Bool) (r2 : Int) (r3 : Int) (w0 w : World) (hI : IsS93 w0 w g s0_0 s0_1 s0_2) (hB : Below w0.heap.size w0 w) (h : spec_l1Once.f s0_0 s0_1 s0_2 a1 = some (r1, r2, r3)) :
    Calls Try.prog 63 #[.pointer (some ⟨g, 0, none⟩), .int .i64 a1] w fun e w' => e = .returned (.bool r1) ∧ IsS93 w0 w' g s0_0 r2 r3 ∧ Below w0.heap.size w0 w' ∧ KeepBut w w' g none := by
  have HI0 := am_ hI
  have HK := am_ (KeepBut.refl w g none)
  have HL := am_ hB.size
  clear hI
  have HW0 := am_ hB.size
  have HB := am_ hB
  clear hB
  have H : ((spec_l1Below.f s0_0 s0_1 s0_2 a1).bind fun bt745 => (some ((bt745.1 == 0), bt745.2.1, bt745.2.2))) = some (r1, r2, r3) := h
  clear h
  replace H := Option.bind_eq_some_iff.mp H
  obtain ⟨⟨an, ao, ap⟩, A30, H⟩ := H
  replace H : (some ((an == 0), ao, ap)) = some (r1, r2, r3) := H
  have A3 := am_ A30
  clear A30
  simp only [Option.some.injEq, Prod.mk.injEq] at H
  obtain ⟨rfl, rfl, rfl⟩ := H
  go_enter Try.func63, Try.ntmps63
  go_wp2_with (first | ((with_reducible refine gate_callee (f := 62) rfl ?_); refine gL_ (some 7) Try.func62 #[.pointer (some ⟨g, 0, none⟩), .int .i64 a1] ?_; (with_reducible refine (spec_l1Below.calls g s0_0 s0_1 s0_2 a1 an ao ap w0 _ ?side1 ?side2 A3.out).mono ?_); (case side1 => exact zp44_0_ HI0.out); (case side2 => exact zp44_1_ HB.out (IsS93.ge HI0.out)); rintro e w4 ⟨rfl, hi, hb, hk⟩; refine ⟨_, rfl, ?_⟩; have n0_ := am_ (KeepBut.trans (k0_ HK.out) hk (.inl rfl)); have n1_ := am_ (hb); have n2_ := am_ (hi); clear HK; clear HB; clear HI0; have HK := n0_; have HB := n1_; have HI0 := n2_; clear n0_ n1_ n2_; (try clear hb); (try clear hb2); (try clear hk); (try clear hi)))
  go_ret
  exact ⟨by first | rfl | (simp [errW_none, errW_some] <;> rfl) | (simp [*, errW_none, errW_some] <;> rfl), by exact zp44_0_ HI0.out, by exact zp44_1_ HB.out (IsS93.ge HI0.out), by exact zp44_2_ HK.out⟩
end Go.Proofs.Ytldgkgdgcfllmaa.P
end
