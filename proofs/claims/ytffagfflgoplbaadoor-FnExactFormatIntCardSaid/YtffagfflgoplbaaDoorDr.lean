/- Draws: what the readers of the code's bytes give back. No condition. -/
import Derived.Test.YtffagfflgoplbaaDoorBase
import Derived.Test.YtffagfflgoplbaaDoorP1
import Derived.Test.YtffagfflgoplbaaDoorP2
namespace Go.Proofs.YtffagfflgoplbaaDoor.Pl
open Go.RowKit Go.Proofs.YtffagfflgoplbaaDoor.P Go.Proofs.YtffagfflgoplbaaDoorW.PrintWords Go.Proofs.YtffagfflgoplbaaDoorW.PrintLast Go.Proofs.YtffagfflgoplbaaDoorW.PrintMore
set_option linter.unusedVariables false
set_option linter.unusedSimpArgs false

theorem new_l0 (b : List Int) (hb : b.length ≤ 140737488351232) : ∀ (d i : Nat) (h : Int), i + d = b.length → ∃ r, Ev (fun k => spec_l1New.l0 k b h i) (b, 0, r) := by
  intro d
  induction d with
  | zero =>
    intro i h e
    refine ⟨h, next ?_⟩
    simp only [spec_l1New.l0, if_neg (show ¬ (i : Int) < (b.length : Int) by omega)]
    exact Ev.now _
  | succ d ih =>
    intro i h e
    by_cases hi : (i : Int) < 4000
    · obtain ⟨r, hr⟩ := ih (i + 1) (Go.bits .and .i64 (wrap64 ((wrap64 ((wrap64 (h * 131)) + (wrap64 (rd b i)))) + 7)) 1073741823) (by omega)
      refine ⟨r, next ?_⟩
      simp only [spec_l1New.l0, if_pos (show (i : Int) < (b.length : Int) by omega), if_pos hi, if_pos (show (0 : Int) ≤ i by omega), up1 (show i < 9223372036854775807 by omega)]
      exact hr
    · refine ⟨h, next ?_⟩
      simp only [spec_l1New.l0, if_pos (show (i : Int) < (b.length : Int) by omega), if_neg hi]
      exact Ev.now _
theorem new (b : List Int) (hb : b.length ≤ 140737488351232) : ∃ r, Ev (fun k => spec_l1New.f k b) (b, 0, r) := by
  simp only [spec_l1New.f]
  exact new_l0 b hb b.length 0 _ (by omega)
theorem and255 (x : Int) : 0 ≤ Go.bits .and .i64 x 255 ∧ Go.bits .and .i64 x 255 ≤ 255 := by
  have h : (BitVec.ofInt 64 x &&& BitVec.ofInt 64 255).toNat ≤ 255 := by
    rw [BitVec.toNat_and]
    exact Nat.and_le_right
  have e : Go.bits .and .i64 x 255 = ((BitVec.ofInt 64 x &&& BitVec.ofInt 64 255).toNat : Int) := by
    show IntKind.i64.wrap ((BitVec.ofInt 64 x &&& BitVec.ofInt 64 255).toNat : Int) = _
    rw [IntKind.wrap_i64]
    omega
  omega
def Cur (b : List Int) (i : Int) : Prop := 0 ≤ i ∧ i ≤ b.length
theorem byte (b : List Int) (hb : b.length ≤ 140737488351232) (i h : Int) (hi : Cur b i) : ∃ x i' h', spec_l1Byte.f b i h = some (x, i', h') ∧ 0 ≤ x ∧ x ≤ 255 ∧ Cur b i' := by
  unfold Cur at hi ⊢
  by_cases hl : i < (b.length : Int)
  · unfold spec_l1Byte.f
    rw [if_pos hl, if_pos hi.1, w64 (show -9223372036854775808 ≤ i + 1 by omega) (by omega)]
    exact ⟨_, _, _, rfl, (and255 _).1, (and255 _).2, by omega, by omega⟩
  · unfold spec_l1Byte.f
    rw [if_neg hl]
    exact ⟨_, _, _, rfl, (and255 _).1, (and255 _).2, by omega, by omega⟩
theorem below (b : List Int) (hb : b.length ≤ 140737488351232) (i h : Int) (hi : Cur b i) (n : Int) (hn : 0 < n) (hn2 : n ≤ 256) : ∃ x i' h', spec_l1Below.f b i h n = some (x, i', h') ∧ 0 ≤ x ∧ x < n ∧ Cur b i' := by
  obtain ⟨x, i', h', e, hx, hx2, hc⟩ := byte b hb i h hi
  refine ⟨x % n, i', h', ?_, by exact Int.emod_nonneg _ (by omega), Int.emod_lt_of_pos _ hn, hc⟩
  simp only [spec_l1Below.f, if_neg (show ¬ n ≤ 0 by omega), if_pos hn2, e, Option.bind_some, if_neg (show ¬ n = 0 by omega), Int.tmod_eq_emod_of_nonneg hx]
theorem below4 (b : List Int) (hb : b.length ≤ 140737488351232) (i h : Int) (hi : Cur b i) (n : Int) (hn : 256 < n) : ∃ x i' h', spec_l1Below.f b i h n = some (x, i', h') ∧ 0 ≤ x ∧ x < n ∧ Cur b i' := by
  obtain ⟨x, i1, h1, e1, x0, x1, c1⟩ := byte b hb i h hi
  obtain ⟨y, i2, h2, e2, y0, y1, c2⟩ := byte b hb i1 h1 c1
  obtain ⟨z, i3, h3, e3, z0, z1, c3⟩ := byte b hb i2 h2 c2
  obtain ⟨v, i4, h4, e4, v0, v1, c4⟩ := byte b hb i3 h3 c3
  have ew : wrap64 ((wrap64 ((wrap64 ((wrap64 (x * 16777216)) + (wrap64 (y * 65536)))) + (wrap64 (z * 256)))) + v) = x * 16777216 + y * 65536 + z * 256 + v := by
    rw [w64 (show -9223372036854775808 ≤ x * 16777216 by omega) (by omega), w64 (show -9223372036854775808 ≤ y * 65536 by omega) (by omega), w64 (show -9223372036854775808 ≤ z * 256 by omega) (by omega), w64 (show -9223372036854775808 ≤ x * 16777216 + y * 65536 by omega) (by omega), w64 (show -9223372036854775808 ≤ x * 16777216 + y * 65536 + z * 256 by omega) (by omega), w64 (by omega) (by omega)]
  refine ⟨(x * 16777216 + y * 65536 + z * 256 + v) % n, i4, h4, ?_, Int.emod_nonneg _ (by omega), Int.emod_lt_of_pos _ (by omega), c4⟩
  simp only [spec_l1Below.f, if_neg (show ¬ n ≤ 0 by omega), if_neg (show ¬ n ≤ 256 by omega), e1, e2, e3, e4, Option.bind_some, if_neg (show ¬ n = 0 by omega), ew, Int.tmod_eq_emod_of_nonneg (show 0 ≤ x * 16777216 + y * 65536 + z * 256 + v by omega)]
theorem pick (b : List Int) (hb : b.length ≤ 140737488351232) (i h : Int) (hi : Cur b i) (l : List ByteArray) (hn : 0 < l.length) (hn2 : l.length ≤ 256) : ∃ x i' h', spec_l1Pick.f b i h l = some (x, i', h') ∧ x ∈ l ∧ Cur b i' := by
  obtain ⟨x, i', h', e, hx, hx2, hc⟩ := below b hb i h hi l.length (by omega) (by omega)
  obtain ⟨m, rfl⟩ : ∃ m : Nat, x = m := ⟨x.toNat, by omega⟩
  refine ⟨l[m]'(by omega), i', h', ?_, List.getElem_mem _, hc⟩
  simp only [spec_l1Pick.f, e, Option.bind_some, if_pos hx, if_pos hx2, rdOf_get _ l m (by omega)]
theorem pickInt (b : List Int) (hb : b.length ≤ 140737488351232) (i h : Int) (hi : Cur b i) (l : List Int) (hn : 0 < l.length) (hn2 : l.length ≤ 256) : ∃ x i' h', spec_l1PickInt.f b i h l = some (x, i', h') ∧ x ∈ l ∧ Cur b i' := by
  obtain ⟨x, i', h', e, hx, hx2, hc⟩ := below b hb i h hi l.length (by omega) (by omega)
  obtain ⟨m, rfl⟩ : ∃ m : Nat, x = m := ⟨x.toNat, by omega⟩
  refine ⟨l[m]'(by omega), i', h', ?_, List.getElem_mem _, hc⟩
  simp only [spec_l1PickInt.f, e, Option.bind_some, if_pos hx, if_pos hx2, rd_get l m (by omega)]
theorem cur0 (b : List Int) : Cur b 0 := ⟨by omega, by omega⟩

end Go.Proofs.YtffagfflgoplbaaDoor.Pl
