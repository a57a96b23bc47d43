/- Texts of the proof of FnBoolean, put together. No condition. -/
import Derived.Test.YtogamkblkoobkaaQFnBoolean9
section
namespace Go.Proofs.Ytogamkblkoobkaa.Pl
open Go.RowKit Go.Proofs.Ytogamkblkoobkaa Go.Proofs.Ytogamkblkoobkaa.P Go.Proofs.YtogamkblkoobkaaW.PrintWords Go.Proofs.YtogamkblkoobkaaW.PrintLast Go.Proofs.YtogamkblkoobkaaW.PrintMore
set_option linter.unusedVariables false
set_option linter.unusedSimpArgs false
theorem pc_size (b : ByteArray) (h : b ∈ [(⟨#[97]⟩ : ByteArray), (⟨#[98]⟩ : ByteArray), (⟨#[97]⟩ : ByteArray), (⟨#[98]⟩ : ByteArray), (⟨#[99]⟩ : ByteArray)]) : b.size = 1 := by
  simp only [List.mem_cons, List.not_mem_nil, or_false] at h
  rcases h with rfl | rfl | rfl | rfl | rfl <;> rfl
theorem drawWord_l0 (b : List Int) (hb : b.length ≤ 140737488351232) (n : Nat) (hn : n ≤ 6) : ∀ (d j : Nat) (s : ByteArray) (i h : Int), j + d = n → s.size ≤ j → Cur b i → ∃ r i' h', Ev (fun k => spec_l2Word.l0 k s n j b i h) (r, i', h') ∧ r.size ≤ 6 ∧ Cur b i' := by
  intro d
  induction d with
  | zero =>
    intro j s i h hj hs hc
    refine ⟨s, i, h, next ?_, by omega, hc⟩
    simp only [spec_l2Word.l0, if_neg (show ¬ (j : Int) < (n : Int) by omega)]
    exact Ev.now _
  | succ d ih =>
    intro j s i h hj hs hc
    obtain ⟨x, i1, h1, e1, m1, c1⟩ := pick b hb i h hc [(⟨#[97]⟩ : ByteArray), (⟨#[98]⟩ : ByteArray), (⟨#[97]⟩ : ByteArray), (⟨#[98]⟩ : ByteArray), (⟨#[99]⟩ : ByteArray)] (by simp) (by simp)
    have hx := pc_size x m1
    obtain ⟨r, i2, h2, e2, s2, c2⟩ := ih (j + 1) (s ++ x) i1 h1 (by omega) (by rw [ByteArray.size_append]; omega) c1
    refine ⟨r, i2, h2, next ?_, s2, c2⟩
    simp only [spec_l2Word.l0, if_pos (show (j : Int) < (n : Int) by omega), e1, Option.bind_some, if_pos (show s.size + x.size ≤ 9223372036854775807 by omega), up1 (show j < 9223372036854775807 by omega)]
    exact e2
theorem drawWord (b : List Int) (hb : b.length ≤ 140737488351232) (i h : Int) (hc : Cur b i) : ∃ r i' h', Ev (fun k => spec_l2Word.f k b i h 6) (r, i', h') ∧ r.size ≤ 6 ∧ Cur b i' := by
  obtain ⟨x, i1, h1, e1, m1, m2, c1⟩ := below b hb i h hc 7 (by omega) (by omega)
  obtain ⟨n, rfl⟩ : ∃ n : Nat, x = n := ⟨x.toNat, by omega⟩
  obtain ⟨r, i2, h2, e2, s2, c2⟩ := drawWord_l0 b hb n (by omega) n 0 ⟨#[]⟩ i1 h1 (by omega) (by simp [ByteArray.size]) c1
  refine ⟨r, i2, h2, ?_, s2, c2⟩
  have ew : wrap64 ((6 : Int) + 1) = 7 := by unfold wrap64; omega
  simp only [spec_l2Word.f, ew, e1, Option.bind_some]
  exact e2
theorem drawAny (b : List Int) (hb : b.length ≤ 140737488351232) (i h : Int) (hc : Cur b i) : ∃ r i' h', Ev (fun k => spec_l2Any.f k b i h) (r, i', h') ∧ r.size ≤ 31 ∧ Cur b i' := by
  obtain ⟨w, i1, h1, e1, s1, c1⟩ := drawWord b hb i h hc
  obtain ⟨x, i2, h2, e2, m2, c2⟩ := pick b hb i1 h1 c1 [(⟨#[]⟩ : ByteArray), (⟨#[97]⟩ : ByteArray), (⟨#[97, 98, 99]⟩ : ByteArray), (⟨#[99, 99]⟩ : ByteArray), (⟨#[97, 98, 100]⟩ : ByteArray), (⟨#[65]⟩ : ByteArray), (⟨#[99, 99, 99, 99, 99, 99, 99, 99, 99, 99, 99, 99, 99, 99, 99, 99, 99, 99, 99, 99, 99, 99, 99, 99, 99, 99, 99, 99, 99, 99]⟩ : ByteArray), (⟨#[97, 97, 97, 97, 97, 97, 97, 97, 97, 97, 97, 97, 97, 97, 97, 97, 97, 97, 97, 97, 97, 97, 97, 97, 97, 97, 97, 97, 97, 97, 97]⟩ : ByteArray), (⟨#[97, 99, 99]⟩ : ByteArray), w] (by simp) (by simp)
  refine ⟨x, i2, h2, ?_, ?_, c2⟩
  · simp only [spec_l2Any.f]
    refine Ev.bind e1 ?_
    simp only [e2, Option.bind_some]
    exact Ev.now _
  · simp only [List.mem_cons, List.not_mem_nil, or_false] at m2
    rcases m2 with rfl | rfl | rfl | rfl | rfl | rfl | rfl | rfl | rfl | rfl <;> first | decide | omega
end Go.Proofs.Ytogamkblkoobkaa.Pl
end
