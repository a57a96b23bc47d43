/- Draws: what the readers of the code's bytes give back. No condition. -/
import Derived.Test.YtffagfflgoplbaaBase
import Derived.Test.YtffagfflgoplbaaP1
namespace Go.Proofs.Ytffagfflgoplbaa.Pl
open Go.RowKit Go.Proofs.Ytffagfflgoplbaa.P Go.Proofs.YtffagfflgoplbaaW.PrintWords Go.Proofs.YtffagfflgoplbaaW.PrintLast Go.Proofs.YtffagfflgoplbaaW.PrintMore
set_option linter.unusedVariables false
set_option linter.unusedSimpArgs false

theorem new_l0 (b : List Int) (hb : b.length ≤ 140737488351232) : ∀ (d i : Nat) (h : Int), i + d = b.length → ∃ r, Ev (fun k => spec_l1New.l0 k b h i) (b, 0, r) := by
  intro d
  induction d with
  | zero =>
    intro i h e
    refine ⟨h, next ?_⟩
    simp only [spec_l1New.l0, if_neg (show ¬ (i : Int) < (b.length : Int) by omega)]
    exact Ev.now _
  | succ d ih =>
    intro i h e
    by_cases hi : (i : Int) < 4000
    · obtain ⟨r, hr⟩ := ih (i + 1) (Go.bits .and .i64 (wrap64 ((wrap64 ((wrap64 (h * 131)) + (wrap64 (rd b i)))) + 7)) 1073741823) (by omega)
      refine ⟨r, next ?_⟩
      simp only [spec_l1New.l0, if_pos (show (i : Int) < (b.length : Int) by omega), if_pos hi, if_pos (show (0 : Int) ≤ i by omega), up1 (show i < 9223372036854775807 by omega)]
      exact hr
    · refine ⟨h, next ?_⟩
      simp only [spec_l1New.l0, if_pos (show (i : Int) < (b.length : Int) by omega), if_neg hi]
      exact Ev.now _
theorem new (b : List Int) (hb : b.length ≤ 140737488351232) : ∃ r, Ev (fun k => spec_l1New.f k b) (b, 0, r) := by
  simp only [spec_l1New.f]
  exact new_l0 b hb b.length 0 _ (by omega)
theorem and255 (x : Int) : 0 ≤ Go.bits .and .i64 x 255 ∧ Go.bits .and .i64 x 255 ≤ 255 := by
  have h : (BitVec.ofInt 64 x &&& BitVec.ofInt 64 255).toNat ≤ 255 := by
    rw [BitVec.toNat_and]
    exact Nat.and_le_right
  have e : Go.bits .and .i64 x 255 = ((BitVec.ofInt 64 x &&& BitVec.ofInt 64 255).toNat : Int) := by
    show IntKind.i64.wrap ((BitVec.ofInt 64 x &&& BitVec.ofInt 64 255).toNat : Int) = _
    rw [IntKind.wrap_i64]
    omega
  omega
def Cur (b : List Int) (i : Int) : Prop := 0 ≤ i ∧ i ≤ b.length
theorem byte (b : List Int) (hb : b.length ≤ 140737488351232) (i h : Int) (hi : Cur b i) : ∃ x i' h', spec_l1Byte.f b i h = some (x, i', h') ∧ 0 ≤ x ∧ x ≤ 255 ∧ Cur b i' := by
  unfold Cur at hi ⊢
  by_cases hl : i < (b.length : Int)
  · unfold spec_l1Byte.f
    rw [if_pos hl, if_pos hi.1, w64 (show -9223372036854775808 ≤ i + 1 by omega) (by omega)]
    exact ⟨_, _, _, rfl, (and255 _).1, (and255 _).2, by omega, by omega⟩
  · unfold spec_l1Byte.f
    rw [if_neg hl]
    exact ⟨_, _, _, rfl, (and255 _).1, (and255 _).2, by omega, by omega⟩
theorem below (b : List Int) (hb : b.length ≤ 140737488351232) (i h : Int) (hi : Cur b i) (n : Int) (hn : 0 < n) (hn2 : n ≤ 256) : ∃ x i' h', spec_l1Below.f b i h n = some (x, i', h') ∧ 0 ≤ x ∧ x < n ∧ Cur b i' := by
  obtain ⟨x, i', h', e, hx, hx2, hc⟩ := byte b hb i h hi
  refine ⟨x % n, i', h', ?_, by exact Int.emod_nonneg _ (by omega), Int.emod_lt_of_pos _ hn, hc⟩
  simp only [spec_l1Below.f, if_neg (show ¬ n ≤ 0 by omega), if_pos hn2, e, Option.bind_some, if_neg (show ¬ n = 0 by omega), Int.tmod_eq_emod_of_nonneg hx]
theorem pick (b : List Int) (hb : b.length ≤ 140737488351232) (i h : Int) (hi : Cur b i) (l : List ByteArray) (hn : 0 < l.length) (hn2 : l.length ≤ 256) : ∃ x i' h', spec_l1Pick.f b i h l = some (x, i', h') ∧ x ∈ l ∧ Cur b i' := by
  obtain ⟨x, i', h', e, hx, hx2, hc⟩ := below b hb i h hi l.length (by omega) (by omega)
  obtain ⟨m, rfl⟩ : ∃ m : Nat, x = m := ⟨x.toNat, by omega⟩
  refine ⟨l[m]'(by omega), i', h', ?_, List.getElem_mem _, hc⟩
  simp only [spec_l1Pick.f, e, Option.bind_some, if_pos hx, if_pos hx2, rdOf_get _ l m (by omega)]
theorem pickInt (b : List Int) (hb : b.length ≤ 140737488351232) (i h : Int) (hi : Cur b i) (l : List Int) (hn : 0 < l.length) (hn2 : l.length ≤ 256) : ∃ x i' h', spec_l1PickInt.f b i h l = some (x, i', h') ∧ x ∈ l ∧ Cur b i' := by
  obtain ⟨x, i', h', e, hx, hx2, hc⟩ := below b hb i h hi l.length (by omega) (by omega)
  obtain ⟨m, rfl⟩ : ∃ m : Nat, x = m := ⟨x.toNat, by omega⟩
  refine ⟨l[m]'(by omega), i', h', ?_, List.getElem_mem _, hc⟩
  simp only [spec_l1PickInt.f, e, Option.bind_some, if_pos hx, if_pos hx2, rd_get l m (by omega)]
theorem cur0 (b : List Int) : Cur b 0 := ⟨by omega, by omega⟩

end Go.Proofs.Ytffagfflgoplbaa.Pl
