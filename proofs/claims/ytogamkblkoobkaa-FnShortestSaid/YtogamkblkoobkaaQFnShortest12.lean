/- The law FnShortest holds for every input. No condition. -/
import Derived.Test.YtogamkblkoobkaaQFnShortest5
import Derived.Test.YtogamkblkoobkaaQFnShortest2
import Derived.Test.YtogamkblkoobkaaQFnShortest4
import Derived.Test.YtogamkblkoobkaaQFnShortest6
import Derived.Test.YtogamkblkoobkaaQFnShortest8
import Derived.Test.YtogamkblkoobkaaQFnShortest7
import Derived.Test.YtogamkblkoobkaaQFnShortest9
import Derived.Test.YtogamkblkoobkaaQFnShortest10
import Derived.Test.YtogamkblkoobkaaQFnShortest11
import Derived.SizedLaws
import Derived.ChangeSlices
import Derived.Test.YtogamkblkoobkaaRows
import Derived.WalkKit
import Derived.ProofKit
import Derived.OpenShut
import Derived.ShutString
import Derived.ChangeOld
import Derived.Below
section
namespace Go.Proofs.Ytogamkblkoobkaa.Bf
open Go.RowKit Go.Proofs.Ytogamkblkoobkaa.Pl Go.Proofs.Ytogamkblkoobkaa.Mp Go.Proofs.YtogamkblkoobkaaW.PrintWords Go.Proofs.YtogamkblkoobkaaW.PrintLast Go.Proofs.YtogamkblkoobkaaW.PrintMore
set_option linter.unusedVariables false
set_option linter.unusedSimpArgs false
set_option linter.unusedSectionVars false
def wv (bs : List Int) : Nat := bs.foldl (fun v b => 3 * v + (letIdx b).toNat + 1) 0
theorem wv_snoc (l : List Int) (b : Int) : wv (l ++ [b]) = 3 * wv l + (letIdx b).toNat + 1 := by unfold wv; rw [List.foldl_append]; rfl
section
variable {α : Type} [DecidableEq α] {nx : α → Nat → α} {x0 : α} {dom : α → Prop} {N : Nat} {good : α → Bool}
def V (p : St α) (j : Nat) : Nat := wv (bytesOf (p.2.getD j ByteArray.empty))
theorem V_pc (wd : ByteArray) (j : Nat) (h : j < 3) : wv (bytesOf (wd ++ pc j)) = 3 * wv (bytesOf wd) + j + 1 := by
  obtain ⟨b, hb, hl⟩ := bytes_pc j h
  rw [bytes_append, hb, wv_snoc, hl]
  rfl
structure Sor (p : St α) : Prop where
  len : p.2.length = p.1.length
  srt : ∀ j k, j < k → k < p.1.length → V p j < V p k
theorem V_put {p : St α} {y : α} {wd : ByteArray} (hl : p.2.length = p.1.length) {k : Nat} (hk : k < p.1.length) : V (put y wd p) k = V p k := by
  unfold V put
  split
  · rfl
  · show wv (bytesOf ((p.2 ++ [wd]).getD k ByteArray.empty)) = _
    rw [List.getD_eq_getElem?_getD, List.getElem?_append_left (by omega), ← List.getD_eq_getElem?_getD]
theorem sor_put {p : St α} (h : Sor p) {y : α} {wd : ByteArray} {b : Nat} (hb : ∀ k, k < p.1.length → V p k < b) (hw : wv (bytesOf wd) = b) : Sor (put y wd p) ∧ (∀ k, k < (put y wd p).1.length → V (put y wd p) k < b + 1) ∧ ∃ k, ∃ hk : k < (put y wd p).1.length, (put y wd p).1[k] = y ∧ V (put y wd p) k ≤ b := by
  by_cases hy : y ∈ p.1
  · have e : put y wd p = p := by unfold put; rw [if_pos hy]
    rw [e]
    refine ⟨h, fun k hk => by have := hb k hk; omega, ?_⟩
    obtain ⟨k, hk, rfl⟩ := List.mem_iff_getElem.mp hy
    exact ⟨k, hk, rfl, by have := hb k hk; omega⟩
  · have e : put y wd p = (p.1 ++ [y], p.2 ++ [wd]) := by unfold put; rw [if_neg hy]
    have e1 : (put y wd p).1.length = p.1.length + 1 := by rw [e]; simp
    have hV := fun k hk => V_put (p := p) (y := y) (wd := wd) h.len (k := k) hk
    have hlast : V (put y wd p) p.1.length = b := by
      rw [e, ← hw]
      unfold V
      show wv (bytesOf ((p.2 ++ [wd]).getD p.1.length ByteArray.empty)) = _
      rw [List.getD_eq_getElem?_getD, List.getElem?_append_right (by rw [h.len]; omega), h.len]
      simp
    refine ⟨⟨by rw [e]; simp [h.len], fun j k hjk hk => ?_⟩, fun k hk => ?_, p.1.length, by omega, by rw [List.getElem_of_eq (congrArg Prod.fst e)]; simp, by omega⟩
    · by_cases hk2 : k < p.1.length
      · rw [hV k hk2, hV j (by omega)]
        exact h.srt j k hjk hk2
      · have : k = p.1.length := by omega
        subst this
        rw [hlast, hV j hjk]
        exact hb j hjk
    · by_cases hk2 : k < p.1.length
      · rw [hV k hk2]
        have := hb k hk2
        omega
      · have : k = p.1.length := by omega
        subst this
        omega
theorem put_pre (y : α) (wd : ByteArray) (p : St α) : p.1 <+: (put y wd p).1 := by
  unfold put
  split
  · exact List.prefix_refl _
  · exact List.prefix_append _ _
theorem sor_ex {x : α} {wd : ByteArray} {v : Nat} (hw : wv (bytesOf wd) = v) : ∀ (d j : Nat) (p : St α), j + d ≤ 3 → Sor p → (∀ k, k < p.1.length → V p k < 3 * v + j + 1) →
    Sor (ex nx x wd d j p) ∧ (∀ k, k < (ex nx x wd d j p).1.length → V (ex nx x wd d j p) k < 3 * v + (j + d) + 1) ∧ (∀ k, k < p.1.length → V (ex nx x wd d j p) k = V p k) ∧ ∀ c, j ≤ c → c < j + d → ∃ k, ∃ hk : k < (ex nx x wd d j p).1.length, (ex nx x wd d j p).1[k] = nx x c ∧ V (ex nx x wd d j p) k ≤ 3 * v + c + 1
  | 0, j, p, _, h, hb => ⟨h, hb, fun _ _ => rfl, fun c h1 h2 => by omega⟩
  | d + 1, j, p, hj, h, hb => by
    rw [ex]
    obtain ⟨g1, g2, k, hk, g3, g4⟩ := sor_put h (y := nx x j) (wd := wd ++ pc j) hb (by rw [V_pc wd j (by omega), hw])
    obtain ⟨f1, f2, f3, f4⟩ := sor_ex hw d (j + 1) (put (nx x j) (wd ++ pc j) p) (by omega) g1 (fun k hk => by have := g2 k hk; omega)
    have hpre := ex_le (nx := nx) x wd d (j + 1) (put (nx x j) (wd ++ pc j) p)
    refine ⟨f1, fun k hk => by have := f2 k hk; omega, fun k hk => ?_, fun c h1 h2 => ?_⟩
    · rw [f3 k (Nat.lt_of_lt_of_le hk (put_pre _ _ _).length_le), V_put h.len hk]
    · by_cases e : c = j
      · subst e
        refine ⟨k, Nat.lt_of_lt_of_le hk hpre.length_le, ?_, ?_⟩
        · rw [← hpre.getElem hk]
          exact g3
        · rw [f3 k hk]
          exact g4
      · exact f4 c (by omega) (by omega)
structure Near (nx : α → Nat → α) (x0 : α) (good : α → Bool) (p : St α) (i : Nat) : Prop where
  sor : Sor p
  zero : ∃ h : 0 < p.1.length, p.1[0] = x0 ∧ V p 0 = 0
  done : ∀ j (hj : j < p.1.length), j < i → good p.1[j] = false ∧ ∀ c, c < 3 → ∃ k, ∃ hk : k < p.1.length, p.1[k] = nx p.1[j] c ∧ V p k ≤ 3 * V p j + c + 1
  near : i < p.1.length → ∀ k, k < p.1.length → V p k < 3 * V p i + 1
def Pth (nx : α → Nat → α) (x0 : α) (p : St α) (i : Nat) (u : List Int) : Prop := (∃ k, ∃ hk : k < p.1.length, p.1[k] = goR nx x0 u ∧ V p k ≤ wv u) ∨ V p i ≤ wv u
theorem near_step {p : St α} {i : Nat} (h : Near nx x0 good p i) (hi : i < p.1.length) (u : List Int) (b : Int) (hb : 0 ≤ letIdx b) (hp : Pth nx x0 p i u) : Pth nx x0 p i (u ++ [b]) := by
  have hb2 := letIdx_range b
  unfold Pth at hp ⊢
  rw [wv_snoc]
  rcases hp with ⟨k, hk, h1, h2⟩ | h2
  · by_cases hki : k < i
    · obtain ⟨_, h4⟩ := h.done k hk hki
      obtain ⟨k', hk', h5, h6⟩ := h4 (letIdx b).toNat (by omega)
      refine Or.inl ⟨k', hk', ?_, by omega⟩
      rw [h5, h1]
      unfold goR
      rw [List.foldl_append]
      rfl
    · right
      by_cases e : k = i
      · subst e; omega
      · have := h.sor.srt i k (by omega) hk
        omega
  · right; omega
theorem near_from {p : St α} {i : Nat} (h : Near nx x0 good p i) (hi : i < p.1.length) : ∀ (t u : List Int), lets t = true → Pth nx x0 p i u → Pth nx x0 p i (u ++ t)
  | [], u, _, hp => by rw [List.append_nil]; exact hp
  | b :: t, u, ht, hp => by
    simp only [lets, List.all_cons, Bool.and_eq_true, decide_eq_true_eq] at ht
    have := near_from h hi t (u ++ [b]) (by unfold lets; exact ht.2) (near_step h hi u b ht.1 hp)
    rw [List.append_assoc, List.singleton_append] at this
    exact this
theorem near_path {p : St α} {i : Nat} (h : Near nx x0 good p i) (hi : i < p.1.length) (u : List Int) (hu : lets u = true) : (∃ k, ∃ hk : k < p.1.length, p.1[k] = goR nx x0 u ∧ V p k ≤ wv u) ∨ V p i ≤ wv u := by
  obtain ⟨h1, h2, h3⟩ := h.zero
  have := near_from h hi u [] hu (Or.inl ⟨0, h1, h2, by omega⟩)
  rw [List.nil_append] at this
  exact this
theorem bfs_min (hdn : ∀ x j, dom x → j < 3 → dom (nx x j)) : ∀ (d : Nat) (p : St α) (i : Nat) (s : ByteArray), Fit dom N p → Near nx x0 good p i → bfs good nx d p i = (s, true) → ∀ u : List Int, lets u = true → good (goR nx x0 u) = true → wv (bytesOf s) ≤ wv u
  | 0, p, i, s, _, _, h, _, _, _ => by simp [bfs] at h
  | d + 1, p, i, s, hf, hn, h, u, hu, hgu => by
    rw [bfs] at h
    by_cases hi : i < p.1.length
    · rw [dif_pos hi] at h
      by_cases hg : good p.1[i] = true
      · rw [if_pos hg] at h
        have e : p.2.getD i ByteArray.empty = s := congrArg Prod.fst h
        have e2 : V p i = wv (bytesOf s) := by unfold V; rw [e]
        rw [← e2]
        rcases near_path hn hi u hu with ⟨k, hk, h1, h2⟩ | h2
        · by_cases hki : k < i
          · have h3 := (hn.done k hk hki).1
            rw [h1, hgu] at h3
            cases h3
          · by_cases e3 : k = i
            · subst e3; exact h2
            · have := hn.sor.srt i k (by omega) hk
              omega
        · exact h2
      · rw [if_neg hg] at h
        have hsz := hf.size i
        obtain ⟨hf2, hle⟩ := fit_ex (nx := nx) (hf.all _ (List.getElem_mem hi)) hdn (wd := p.2.getD i ByteArray.empty) 3 0 p (by omega) hf (by omega)
        have hpre := ex_le (nx := nx) p.1[i] (p.2.getD i ByteArray.empty) 3 0 p
        obtain ⟨f1, f2, f3, f4⟩ := sor_ex (nx := nx) (x := p.1[i]) (wd := p.2.getD i ByteArray.empty) (v := V p i) rfl 3 0 p (by omega) hn.sor (fun k hk => by have := hn.near hi k hk; omega)
        refine bfs_min hdn d _ (i + 1) s hf2 ⟨f1, ?_, fun j hj hji => ?_, fun hi2 k hk => ?_⟩ h u hu hgu
        · obtain ⟨h1, h2, h3⟩ := hn.zero
          exact ⟨by omega, by rw [← hpre.getElem h1]; exact h2, by rw [f3 0 h1]; exact h3⟩
        · have hj2 : j < p.1.length := by omega
          have e := hpre.getElem hj2
          rw [← e, f3 j hj2]
          by_cases e2 : j = i
          · subst e2
            exact ⟨by simpa using hg, fun c hc => f4 c (by omega) (by omega)⟩
          · obtain ⟨h1, h2⟩ := hn.done j hj2 (by omega)
            refine ⟨h1, fun c hc => ?_⟩
            obtain ⟨k, hk, h3, h4⟩ := h2 c hc
            exact ⟨k, by omega, by rw [← hpre.getElem hk]; exact h3, by rw [f3 k hk]; exact h4⟩
        · have h1 := f2 k hk
          have h2 := f1.srt i (i + 1) (by omega) hi2
          rw [f3 i hi] at h2
          omega
    · rw [dif_neg hi] at h
      cases h
theorem near0 (x : α) : Near nx x good ([x], [(⟨#[]⟩ : ByteArray)]) 0 := by
  refine ⟨⟨rfl, fun j k h1 h2 => ?_⟩, ⟨by simp, rfl, rfl⟩, fun j _ h => by omega, fun _ k hk => ?_⟩
  · have : k < 1 := h2
    omega
  · have e : k = 0 := by simp at hk; omega
    subst e
    have : V (([x], [(⟨#[]⟩ : ByteArray)]) : St α) 0 = 0 := rfl
    omega
end
theorem wv_fold (l : List Int) : ∀ v, l.foldl (fun v b => 3 * v + (letIdx b).toNat + 1) v = 3 ^ l.length * v + wv l := by
  induction l with
  | nil => intro v; simp [wv]
  | cons b t ih =>
    intro v
    have h1 : wv (b :: t) = 3 ^ t.length * ((letIdx b).toNat + 1) + wv t := by
      have h2 := ih (3 * 0 + (letIdx b).toNat + 1)
      rw [Nat.mul_zero, Nat.zero_add] at h2
      show t.foldl (fun v b => 3 * v + (letIdx b).toNat + 1) (3 * 0 + (letIdx b).toNat + 1) = _
      rw [Nat.mul_zero, Nat.zero_add]
      exact h2
    rw [List.foldl_cons, ih, h1, List.length_cons, Nat.pow_succ]
    rw [Nat.mul_add, Nat.mul_add, Nat.mul_add, Nat.mul_assoc, ← Nat.mul_assoc (3 ^ t.length) 3 v]
    rw [Nat.mul_assoc]
    omega
theorem wv_cons (b : Int) (t : List Int) : wv (b :: t) = 3 ^ t.length * ((letIdx b).toNat + 1) + wv t := by
  have := wv_fold t (3 * 0 + (letIdx b).toNat + 1)
  unfold wv at this ⊢
  rw [List.foldl_cons, this]
  simp
theorem wv_range (l : List Int) (h : lets l = true) : 3 ^ l.length ≤ 2 * wv l + 1 ∧ 2 * wv l + 3 ≤ 3 * 3 ^ l.length := by
  induction l with
  | nil => simp [wv]
  | cons b t ih =>
    unfold lets at h ih
    rw [List.all_cons, Bool.and_eq_true] at h
    obtain ⟨i1, i2⟩ := ih h.2
    have hb := letIdx_range b
    rw [wv_cons, List.length_cons, Nat.pow_succ]
    have hd : (letIdx b).toNat = 0 ∨ (letIdx b).toNat = 1 ∨ (letIdx b).toNat = 2 := by omega
    generalize 3 ^ t.length = P at i1 i2 ⊢
    rcases hd with e | e | e <;> rw [e] <;> omega
theorem wv_less (a b : List Int) (ha : lets a = true) (hb : lets b = true) (h : a.length < b.length) : wv a < wv b := by
  have h1 := (wv_range a ha).2
  have h2 := (wv_range b hb).1
  have h3 : 3 ^ (a.length + 1) ≤ 3 ^ b.length := Nat.pow_le_pow_right (by omega) h
  rw [Nat.pow_succ] at h3
  omega
theorem let_cases {b : UInt8} (h : 0 ≤ letIdx (b.toNat : Int)) : (b.toNat = 97 ∧ letIdx (b.toNat : Int) = 0) ∨ (b.toNat = 98 ∧ letIdx (b.toNat : Int) = 1) ∨ (b.toNat = 99 ∧ letIdx (b.toNat : Int) = 2) := by
  unfold letIdx at h ⊢
  by_cases h1 : (b.toNat : Int) = 97
  · rw [if_pos h1]; exact Or.inl ⟨by omega, rfl⟩
  · rw [if_neg h1] at h ⊢
    by_cases h2 : (b.toNat : Int) = 98
    · rw [if_pos h2]; exact Or.inr (Or.inl ⟨by omega, rfl⟩)
    · rw [if_neg h2] at h ⊢
      by_cases h3 : (b.toNat : Int) = 99
      · rw [if_pos h3]; exact Or.inr (Or.inr ⟨by omega, rfl⟩)
      · rw [if_neg h3] at h
        omega
theorem less_val : ∀ x y : List UInt8, x.length = y.length → lets (x.map fun b => (b.toNat : Int)) = true → lets (y.map fun b => (b.toNat : Int)) = true → Op.bytesLess x y = true → wv (x.map fun b => (b.toNat : Int)) < wv (y.map fun b => (b.toNat : Int))
  | _, [], _, _, _, h => by simp [Op.bytesLess] at h
  | [], _ :: _, hl, _, _, _ => by simp at hl
  | a :: x, b :: y, hl, hx, hy, h => by
    have hlen : x.length = y.length := by simpa using hl
    simp only [List.map_cons, lets, List.all_cons, Bool.and_eq_true, decide_eq_true_eq] at hx hy
    have r1 := wv_range (x.map fun b => (b.toNat : Int)) (by unfold lets; exact hx.2)
    have r2 := wv_range (y.map fun b => (b.toNat : Int)) (by unfold lets; exact hy.2)
    simp only [List.map_cons, wv_cons, List.length_map] at r1 r2 ⊢
    rw [hlen] at r1 ⊢
    simp only [Op.bytesLess, Bool.or_eq_true, decide_eq_true_eq, Bool.and_eq_true, beq_iff_eq] at h
    rcases h with h | ⟨rfl, h⟩
    · have hab : a.toNat < b.toNat := UInt8.lt_iff_toNat_lt.mp h
      generalize 3 ^ y.length = P at r1 r2 ⊢
      rcases let_cases hx.1 with ⟨e1, e2⟩ | ⟨e1, e2⟩ | ⟨e1, e2⟩ <;> rcases let_cases hy.1 with ⟨e3, e4⟩ | ⟨e3, e4⟩ | ⟨e3, e4⟩ <;> rw [e2, e4] <;> (first | omega | (exfalso; omega) | (simp only [Int.toNat_zero, show (1 : Int).toNat = 1 from rfl, show (2 : Int).toNat = 2 from rfl]; omega))
    · have := less_val x y hlen (by unfold lets; exact hx.2) (by unfold lets; exact hy.2) h
      omega
theorem less_words {a b : ByteArray} (ha : lets (bytesOf a) = true) (hb : lets (bytesOf b) = true) (hl : a.size = b.size) (h : Op.bytesLess a.toList b.toList = true) : wv (bytesOf a) < wv (bytesOf b) := by
  rw [ByteArray.toList_eq, ByteArray.toList_eq] at h
  exact less_val a.data.toList b.data.toList (by rw [Array.length_toList, Array.length_toList]; exact hl) ha hb h
end Go.Proofs.Ytogamkblkoobkaa.Bf
end
section
namespace Go.Proofs.Ytogamkblkoobkaa.Can
open Go.RowKit Go.Proofs.Ytogamkblkoobkaa Go.Proofs.Ytogamkblkoobkaa.P Go.Proofs.Ytogamkblkoobkaa.Wk Go.Proofs.Ytogamkblkoobkaa.Lg Go.Proofs.Ytogamkblkoobkaa.Pl Go.Proofs.Ytogamkblkoobkaa.Mp Go.Proofs.Ytogamkblkoobkaa.Bf Go.Proofs.Ytogamkblkoobkaa.Mn Go.Proofs.YtogamkblkoobkaaW.PrintWords Go.Proofs.YtogamkblkoobkaaW.PrintLast Go.Proofs.YtogamkblkoobkaaW.PrintMore
set_option linter.unusedVariables false
set_option linter.unusedSimpArgs false
section
variable {a b : List Bool} {n m : List (List Int)}
theorem goR_one : ∀ (l : List Int) (x : Int), lets l = true → goR (nxD n) x l = runD n x l
  | [], x, _ => rfl
  | c :: l, x, h => by
    rw [lets_cons] at h
    have e : letIdx c = ((letIdx c).toNat : Int) := by omega
    show goR (nxD n) (nxD n x (letIdx c).toNat) l = _
    rw [goR_one l _ h.2]
    have e1 : nxD n x (letIdx c).toNat = rd (rd_L1 n x) (letIdx c) := by
      conv => rhs; rw [e]
      rfl
    rw [e1]
    rfl
theorem one_dom (hv : validD a n = true) : ∀ (x : Int) (j : Nat), (0 ≤ x ∧ x < (a.length : Int)) → j < 3 → (0 ≤ nxD n x j ∧ nxD n x j < (a.length : Int)) := by
  intro x j hx hj
  have f1 := (fits_valid hv).row x hx
  refine f1.2 _ ?_
  show rd (rowOf n x) (j : Int) ∈ rowOf n x
  rw [rd_get _ j (by omega)]
  exact List.getElem_mem _
theorem one_fit (hv : validD a n = true) : Bf.Fit (fun x : Int => 0 ≤ x ∧ x < (a.length : Int)) a.length ([(0 : Int)], [(⟨#[]⟩ : ByteArray)]) := by
  obtain ⟨h1, _⟩ := validD_facts hv
  exact fit0 ⟨by omega, by omega⟩ (fun s hn hs => card_range a.length s hn hs)
theorem shortest_some {s : ByteArray} (hv : validD a n = true) (h30 : a.length ≤ 31) (h : shW a n = (s, true)) : s.size ≤ 30 ∧ lets (bytesOf s) = true ∧ accOf a n s = true ∧ ∀ w : ByteArray, accOf a n w = true → wv (bytesOf s) ≤ wv (bytesOf w) := by
  unfold shW at h
  rw [if_pos hv] at h
  obtain ⟨h1, h2, h3⟩ := bfs_true (one_dom hv) 42 _ 0 s (one_fit hv) (leads0 _) h
  have hmin := bfs_min (one_dom hv) 42 _ 0 s (one_fit hv) (near0 _) h
  rw [goR_one _ _ h2] at h1
  have hword : word s = true := by
    unfold word
    rw [h2, decide_eq_true (show s.size ≤ 30 by omega)]
    rfl
  refine ⟨by omega, h2, ?_, fun w hw => ?_⟩
  · unfold accOf
    rw [hv, hword]
    exact h1
  · unfold accOf at hw
    rw [Bool.and_eq_true, Bool.and_eq_true] at hw
    obtain ⟨⟨_, hw2⟩, hw3⟩ := hw
    unfold word at hw2
    rw [Bool.and_eq_true] at hw2
    exact hmin _ hw2.1 (by show rdOf false a (goR (nxD n) 0 (bytesOf w)) = true; rw [goR_one _ _ hw2.1]; exact hw3)
theorem shortest_none {s : ByteArray} (h : shW a n = (s, false)) (w : ByteArray) : accOf a n w = false := by
  unfold accOf
  by_cases hv : validD a n = true
  · by_cases hw : word w = true
    · unfold shW at h
      rw [if_pos hv] at h
      obtain ⟨_, h2, _, _⟩ := validD_facts hv
      obtain ⟨R, hx, hR⟩ := bfs_false (x0 := (0 : Int)) (one_dom hv) 42 _ 0 s (one_fit hv) (by simp) (by omega) (by simp) (fun j _ hj => by omega) h
      have H : ∀ (l : List Int) (x : Int), lets l = true → x ∈ R → runD n x l ∈ R := by
        intro l
        induction l with
        | nil => exact fun x _ hx => hx
        | cons c l ih =>
          intro x hl hx
          rw [lets_cons] at hl
          have hc := letIdx_range c
          have e : letIdx c = ((letIdx c).toNat : Int) := by omega
          have := (hR x hx).2 (letIdx c).toNat (by omega)
          have e1 : nxD n x (letIdx c).toNat = rd (rd_L1 n x) (letIdx c) := by
            conv => rhs; rw [e]
            rfl
          rw [e1] at this
          exact ih _ hl.2 this
      unfold word at hw
      rw [Bool.and_eq_true] at hw
      have := (hR _ (H (bytesOf w) 0 hw.1 hx)).1
      rw [show rdOf false a (runD n 0 (bytesOf w)) = false from this, Bool.and_false]
    · rw [eq_false_of_ne_true hw, Bool.and_false, Bool.false_and]
  · rw [eq_false_of_ne_true hv, Bool.false_and, Bool.false_and]
def toF : List Int → List (Fin 3)
  | [] => []
  | c :: l => ⟨(letIdx c).toNat % 3, by omega⟩ :: toF l
theorem run_toF : ∀ (l : List Int) (x : Int), lets l = true → run a n (toF l) x = rdOf false a (runD n x l)
  | [], x, _ => rfl
  | c :: l, x, h => by
    rw [lets_cons] at h
    have hc := letIdx_range c
    have e : (((letIdx c).toNat % 3 : Nat) : Int) = letIdx c := by omega
    show run a n (toF l) (rd (rowOf n x) (((letIdx c).toNat % 3 : Nat) : Int)) = _
    rw [e, run_toF l _ h.2]
    rfl
theorem differ_word {good : Bool → Bool → Bool} {s : ByteArray} (hv : validD a n = true) (hw : validD b m = true) (h : fpR good a n b m = (s, true)) : ∃ w : List (Fin 3), good (lang a n 0 w) (lang b m 0 w) = true := by
  unfold fpR at h
  rw [if_pos ⟨hv, hw⟩] at h
  obtain ⟨h1, h2, h3⟩ := bfs_true (pair_dom hv hw) 1602 _ 0 s (pair_fit hv hw) (leads0 _) h
  rw [goR_pair _ _ h2] at h1
  refine ⟨toF (bytesOf s), ?_⟩
  show good (run a n _ 0) (run b m _ 0) = true
  rw [run_toF _ _ h2, run_toF _ _ h2]
  exact h1
theorem in_union (h : (pdR a n b m 6).2.2 = true) : inR a n b m = (decide ((pdR a n b m 6).1 = (minOf b m).1) && decide ((pdR a n b m 6).2.1 = (minOf b m).2)) := by
  by_cases hc : (validD a n = true ∧ validD b m = true) ∧ ((6 : Int) = 6 ∨ (6 : Int) = 7)
  · obtain ⟨⟨hv, hw⟩, _⟩ := hc
    obtain ⟨q, he, hx, hau, hq⟩ := pd_some (kind := 6) hv hw
    have e2 := hau.lang (fun x w => bothB 6 (run a n w x.1) (run b m w x.2)) (dom := fun _ => True) trivial (fun _ _ _ _ => trivial) (fun x _ => rfl) (fun x _ k w => rfl)
    have hpd : pdR a n b m 6 = fitD q.2.1 q.2.2 := by
      unfold pdR
      rw [if_pos ⟨⟨hv, hw⟩, Or.inl rfl⟩, hx]
    rw [hpd] at h ⊢
    have hfit : fitD q.2.1 q.2.2 = ((minD q.2.1 q.2.2 0).1, (minD q.2.1 q.2.2 0).2, true) := by
      unfold fitD at h ⊢
      by_cases hl : (minD q.2.1 q.2.2 0).1.length ≤ 40
      · rw [if_pos hl]
      · rw [if_neg hl] at h
        cases h
    rw [hfit]
    have hmin : minOf b m = minD b m 0 := by unfold minOf; rw [if_pos hw]
    rw [hmin]
    obtain ⟨g1, _⟩ := validD_facts hw
    have c1 := min_can (fits_rows hau.rows.2) (st := 0) (by have := hau.rows.1; omega)
    have c2 := min_can (fits_valid hw) (st := 0) (by omega)
    unfold inR
    rw [hv, hw]
    cases hf : fpR (fun p q => p && !q) a n b m with
    | mk s d =>
      cases d with
      | false =>
        have hn := differ_none hv hw hf
        have hl : lang q.2.1 q.2.2 0 = lang b m 0 := by
          rw [e2]
          funext w
          have this : (lang a n 0 w && !lang b m 0 w) = false := hn w
          show bothB 6 (lang a n 0 w) (lang b m 0 w) = lang b m 0 w
          unfold bothB
          rw [if_pos rfl]
          generalize lang a n 0 w = u at this ⊢
          generalize lang b m 0 w = v at this ⊢
          cases u <;> cases v <;> first | rfl | cases this
        rw [hl] at c1
        have he := c1.det c2
        rw [he]
        simp
      | true =>
        obtain ⟨w, hw2⟩ := differ_word hv hw hf
        have hne : minD q.2.1 q.2.2 0 ≠ minD b m 0 := by
          intro he
          have l1 := c1.facts.2.2
          have l2 := c2.facts.2.2
          rw [he, l2] at l1
          rw [e2] at l1
          have := congrFun l1 w
          have h3 : lang b m 0 w = bothB 6 (lang a n 0 w) (lang b m 0 w) := this
          unfold bothB at h3
          rw [if_pos rfl] at h3
          have hw2 : (lang a n 0 w && !lang b m 0 w) = true := hw2
          generalize lang a n 0 w = u at h3 hw2
          generalize lang b m 0 w = v at h3 hw2
          cases u <;> cases v <;> first | (exact absurd hw2 (by decide)) | (exact absurd h3 (by decide))
        have : (decide ((minD q.2.1 q.2.2 0).1 = (minD b m 0).1) && decide ((minD q.2.1 q.2.2 0).2 = (minD b m 0).2)) = false := by
          rw [← Bool.not_eq_true, Bool.and_eq_true, decide_eq_true_iff, decide_eq_true_iff]
          rintro ⟨h1, h2⟩
          exact hne (Prod.ext h1 h2)
        rw [this]
        rfl
  · unfold pdR at h
    rw [if_neg hc] at h
    cases h
end
end Go.Proofs.Ytogamkblkoobkaa.Can
end
section
namespace Go.Proofs.Ytogamkblkoobkaa.Wu
open Go.RowKit Go.Proofs.Ytogamkblkoobkaa.P Go.Proofs.Ytogamkblkoobkaa.Pl Go.Proofs.YtogamkblkoobkaaW.PrintWords Go.Proofs.YtogamkblkoobkaaW.PrintLast Go.Proofs.YtogamkblkoobkaaW.PrintMore
set_option linter.unusedVariables false
set_option linter.unusedSimpArgs false
def pc (j : Nat) : ByteArray := (⟨#[97, 98, 99]⟩ : ByteArray).extract j (j + 1)
def three (w : ByteArray) : List ByteArray := [w ++ pc 0, w ++ pc 1, w ++ pc 2]
def longer (l : List ByteArray) : List ByteArray := l.flatMap three
def wordsN : Nat → List ByteArray
  | 0 => [⟨#[]⟩]
  | n + 1 => longer (wordsN n)
theorem len_longer (l : List ByteArray) : (longer l).length = 3 * l.length := by
  induction l with
  | nil => rfl
  | cons a t ih => simp only [longer, List.flatMap_cons, List.length_append, three, List.length_cons, List.length_nil] at ih ⊢; omega
theorem size_pc (j : Nat) (h : j < 3) : (pc j).size = 1 := by
  match j, h with
  | 0, _ => rfl
  | 1, _ => rfl
  | 2, _ => rfl
theorem size_longer {l : List ByteArray} {m : Nat} (h : ∀ w ∈ l, w.size = m) : ∀ w ∈ longer l, w.size = m + 1 := by
  intro w hw
  simp only [longer, List.mem_flatMap, three, List.mem_cons, List.not_mem_nil, or_false] at hw
  obtain ⟨x, hx, rfl | rfl | rfl⟩ := hw <;> simp only [ByteArray.size_append, h x hx] <;> rfl
theorem size_words (n : Nat) : ∀ w ∈ wordsN n, w.size = n := by
  induction n with
  | zero => intro w hw; simp only [wordsN, List.mem_singleton] at hw; subst hw; rfl
  | succ n ih => exact size_longer ih
theorem len_words (n : Nat) : (wordsN n).length = 3 ^ n := by
  induction n with
  | zero => rfl
  | succ n ih => rw [wordsN, len_longer, ih, Nat.pow_succ]; omega
theorem spec_words_l2 (n : Int) (l : List ByteArray) (r : Int) (i : Nat) (out : List ByteArray) (res : List ByteArray) (hi : i < l.length) (hsz : l[i].size ≤ 1000) (ho : out.length ≤ 1000000) (hll : l.length ≤ 1000000)
    (h : Ev (fun k => spec_WordsOfLength.l1 k n l r (out ++ three l[i]) ((i + 1 : Nat) : Int)) res) : Ev (fun k => spec_WordsOfLength.l2 k n l r out i 0) res := by
  have w0 : wrap64 ((0 : Int) + 1) = 1 := by unfold wrap64; omega
  have w1 : wrap64 ((1 : Int) + 1) = 2 := by unfold wrap64; omega
  have w2 : wrap64 ((2 : Int) + 1) = 3 := by unfold wrap64; omega
  have p0 : (⟨#[97, 98, 99]⟩ : ByteArray).extract (0 : Int).toNat (1 : Int).toNat = pc 0 := rfl
  have p1 : (⟨#[97, 98, 99]⟩ : ByteArray).extract (1 : Int).toNat (2 : Int).toNat = pc 1 := rfl
  have p2 : (⟨#[97, 98, 99]⟩ : ByteArray).extract (2 : Int).toNat (3 : Int).toNat = pc 2 := rfl
  refine next ?_
  simp only [spec_WordsOfLength.l2, if_pos (show (0 : Int) < 3 by omega), if_pos (show (0 : Int) ≤ i by omega), if_pos (show (i : Int) < (l.length : Int) by omega), if_pos (show (0 : Int) ≤ 0 by omega), w0, if_pos (show (0 : Int) ≤ 1 by omega), if_pos (show (1 : Int) ≤ 3 by omega), p0, rdOf_get _ l i hi, size_pc 0 (by omega), if_pos (show l[i].size + 1 ≤ 9223372036854775807 by omega), if_pos (show out.length < 8796093022208 by omega)]
  refine next ?_
  simp only [spec_WordsOfLength.l2, if_pos (show (1 : Int) < 3 by omega), if_pos (show (0 : Int) ≤ i by omega), if_pos (show (i : Int) < (l.length : Int) by omega), if_pos (show (0 : Int) ≤ 1 by omega), w1, if_pos (show (1 : Int) ≤ 2 by omega), if_pos (show (2 : Int) ≤ 3 by omega), p1, rdOf_get _ l i hi, size_pc 1 (by omega), if_pos (show l[i].size + 1 ≤ 9223372036854775807 by omega), List.length_append, List.length_cons, List.length_nil, if_pos (show out.length + (0 + 1) < 8796093022208 by omega)]
  refine next ?_
  simp only [spec_WordsOfLength.l2, if_pos (show (2 : Int) < 3 by omega), if_pos (show (0 : Int) ≤ i by omega), if_pos (show (i : Int) < (l.length : Int) by omega), if_pos (show (0 : Int) ≤ 2 by omega), w2, if_pos (show (2 : Int) ≤ 3 by omega), if_pos (show (3 : Int) ≤ 3 by omega), p2, rdOf_get _ l i hi, size_pc 2 (by omega), if_pos (show l[i].size + 1 ≤ 9223372036854775807 by omega), List.length_append, List.length_cons, List.length_nil, if_pos (show out.length + (0 + 1) + (0 + 1) < 8796093022208 by omega)]
  refine next ?_
  simp only [spec_WordsOfLength.l2, if_neg (show ¬ (3 : Int) < 3 by omega)]
  have e : out ++ [l[i] ++ pc 0] ++ [l[i] ++ pc 1] ++ [l[i] ++ pc 2] = out ++ three l[i] := by simp [three]
  rw [e]
  rw [up1 (by omega)]
  exact h
theorem spec_words_l1 (n : Int) (l : List ByteArray) (r : Int) (hsz : ∀ w ∈ l, w.size ≤ 1000) (hll : l.length ≤ 100000) (res : List ByteArray) (h : Ev (fun k => spec_WordsOfLength.l0 k n (longer l) (wrap64 (r + 1))) res) :
    ∀ (d i : Nat) (out : List ByteArray), i + d = l.length → out = longer (l.take i) → Ev (fun k => spec_WordsOfLength.l1 k n l r out i) res := by
  intro d
  induction d with
  | zero =>
    intro i out hd ho
    refine next ?_
    simp only [spec_WordsOfLength.l1, if_neg (show ¬ (i : Int) < (l.length : Int) by omega)]
    rw [ho, List.take_of_length_le (by omega)]
    exact h
  | succ d ih =>
    intro i out hd ho
    have hi : i < l.length := by omega
    refine next ?_
    simp only [spec_WordsOfLength.l1, if_pos (show (i : Int) < (l.length : Int) by omega)]
    refine spec_words_l2 n l r i out res hi (hsz _ (List.getElem_mem _)) (by rw [ho, len_longer, List.length_take]; omega) (by omega) ?_
    refine ih (i + 1) _ (by omega) ?_
    rw [ho, List.take_succ_eq_append_getElem hi]
    simp only [longer, List.flatMap_append, List.flatMap_cons, List.flatMap_nil, List.append_nil]
theorem spec_words_l0 (n : Nat) (hn : n ≤ 5) : ∀ (d i : Nat), i + d = n → Ev (fun k => spec_WordsOfLength.l0 k n (wordsN i) i) (wordsN n) := by
  intro d
  induction d with
  | zero =>
    intro i h
    refine next ?_
    simp only [spec_WordsOfLength.l0, if_neg (show ¬ (i : Int) < (n : Int) by omega)]
    have : i = n := by omega
    subst this
    exact Ev.now _
  | succ d ih =>
    intro i h
    have hlen : (wordsN i).length ≤ 100000 := by
      rw [len_words]
      have : 3 ^ i ≤ 3 ^ 5 := Nat.pow_le_pow_right (by omega) (by omega)
      omega
    refine next ?_
    simp only [spec_WordsOfLength.l0, if_pos (show (i : Int) < (n : Int) by omega)]
    refine spec_words_l1 n (wordsN i) i (fun w hw => by rw [size_words i w hw]; omega) hlen _ ?_ (wordsN i).length 0 [] (by omega) rfl
    rw [up1 (by omega)]
    exact ih (i + 1) (by omega)
theorem spec_words (n : Int) : Ev (fun k => spec_WordsOfLength.f k n) (if 0 ≤ n ∧ n ≤ 5 then wordsN n.toNat else []) := by
  simp only [spec_WordsOfLength.f, spec_l1In.f]
  by_cases h0 : 0 ≤ n
  · by_cases h5 : n ≤ 5
    · simp only [ge_iff_le, if_pos h0, Option.bind_some, h5, decide_true, if_true, h0, true_and]
      obtain ⟨m, rfl⟩ := Int.eq_ofNat_of_zero_le h0
      rw [Int.toNat_natCast]
      exact spec_words_l0 m (by omega) m 0 (by omega)
    · simp only [ge_iff_le, if_pos h0, Option.bind_some, h5, decide_false, if_neg Bool.false_ne_true, h0, true_and, if_false]
      exact Ev.now _
  · simp only [ge_iff_le, if_neg h0, Option.bind_some, h0, false_and, if_false, if_neg Bool.false_ne_true]
    exact Ev.now _
def upto : Nat → List ByteArray
  | 0 => wordsN 0
  | n + 1 => upto n ++ wordsN (n + 1)
def before : Nat → List ByteArray
  | 0 => []
  | n + 1 => upto n
theorem before_next (i : Nat) : before i ++ wordsN i = upto i := by cases i <;> rfl
theorem len_upto (n : Nat) (hn : n ≤ 5) : (upto n).length ≤ 1000 ∧ (before n).length ≤ 1000 := by
  match n, hn with
  | 0, _ => decide +kernel
  | 1, _ => decide +kernel
  | 2, _ => decide +kernel
  | 3, _ => decide +kernel
  | 4, _ => decide +kernel
  | 5, _ => decide +kernel
theorem spec_upto_l0 (n : Int) (m : Nat) (hm : (m : Int) = min n 5) : ∀ (d i : Nat), i + d = m + 1 → Ev (fun k => spec_WordsUpTo.l0 k n (before i) i) (upto m) := by
  intro d
  induction d with
  | zero =>
    intro i h
    have e : i = m + 1 := by omega
    subst e
    refine next ?_
    by_cases h1 : ((m + 1 : Nat) : Int) ≤ n
    · simp only [spec_WordsUpTo.l0, if_pos h1, if_neg (show ¬ ((m + 1 : Nat) : Int) ≤ 5 by omega)]
      exact Ev.now _
    · simp only [spec_WordsUpTo.l0, if_neg h1]
      exact Ev.now _
  | succ d ih =>
    intro i h
    refine next ?_
    simp only [spec_WordsUpTo.l0, if_pos (show (i : Int) ≤ n by omega), if_pos (show (i : Int) ≤ 5 by omega), up1 (show i < 9223372036854775807 by omega)]
    refine Ev.bind (spec_words i) ?_
    rw [if_pos (by omega), Int.toNat_natCast]
    have hl := (len_upto i (by omega)).1
    rw [← before_next, List.length_append] at hl
    simp only [if_pos (show (before i).length + (wordsN i).length < 8796093022208 by omega), before_next]
    exact ih (i + 1) (by omega)
theorem spec_upto (n : Int) : Ev (fun k => spec_WordsUpTo.f k n) (if n < 0 then [] else upto (min n 5).toNat) := by
  simp only [spec_WordsUpTo.f]
  by_cases h : n < 0
  · rw [if_pos h]
    refine next ?_
    simp only [spec_WordsUpTo.l0, if_neg (show ¬ (0 : Int) ≤ n by omega)]
    exact Ev.now _
  · rw [if_neg h]
    exact spec_upto_l0 n (min n 5).toNat (by omega) ((min n 5).toNat + 1) 0 (by omega)
theorem lets_longer {l : List ByteArray} (h : ∀ w ∈ l, lets (bytesOf w) = true) : ∀ w ∈ longer l, lets (bytesOf w) = true := by
  intro w hw
  simp only [longer, List.mem_flatMap, three, List.mem_cons, List.not_mem_nil, or_false] at hw
  have hb : ∀ a b : ByteArray, bytesOf (a ++ b) = bytesOf a ++ bytesOf b := fun a b => by simp [bytesOf, ByteArray.data_append]
  have hp : ∀ j, j < 3 → lets (bytesOf (pc j)) = true := fun j hj => by
    match j, hj with
    | 0, _ => rfl
    | 1, _ => rfl
    | 2, _ => rfl
  have ha : ∀ a b : ByteArray, lets (bytesOf a) = true → lets (bytesOf b) = true → lets (bytesOf (a ++ b)) = true := fun a b h1 h2 => by
    rw [hb]
    unfold lets at h1 h2 ⊢
    rw [List.all_append, h1, h2]
    rfl
  obtain ⟨x, hx, rfl | rfl | rfl⟩ := hw
  · exact ha _ _ (h x hx) (hp 0 (by omega))
  · exact ha _ _ (h x hx) (hp 1 (by omega))
  · exact ha _ _ (h x hx) (hp 2 (by omega))
theorem lets_words (n : Nat) : ∀ w ∈ wordsN n, lets (bytesOf w) = true := by
  induction n with
  | zero => intro w hw; simp only [wordsN, List.mem_singleton] at hw; subst hw; rfl
  | succ n ih => exact lets_longer ih
theorem upto_words (n : Nat) : ∀ w ∈ upto n, lets (bytesOf w) = true ∧ w.size ≤ n := by
  induction n with
  | zero => intro w hw; exact ⟨lets_words 0 w hw, by rw [size_words 0 w hw]; omega⟩
  | succ n ih =>
    intro w hw
    rcases List.mem_append.mp hw with hw | hw
    · obtain ⟨h1, h2⟩ := ih w hw
      exact ⟨h1, by omega⟩
    · exact ⟨lets_words _ w hw, by rw [size_words _ w hw]; omega⟩
end Go.Proofs.Ytogamkblkoobkaa.Wu
end
section
namespace Go.Proofs.Ytogamkblkoobkaa.Pl
open Go.RowKit Go.Proofs.Ytogamkblkoobkaa Go.Proofs.Ytogamkblkoobkaa.P Go.Proofs.Ytogamkblkoobkaa.Wk Go.Proofs.Ytogamkblkoobkaa.Bf Go.Proofs.YtogamkblkoobkaaW.PrintWords Go.Proofs.YtogamkblkoobkaaW.PrintLast Go.Proofs.YtogamkblkoobkaaW.PrintMore
set_option linter.unusedVariables false
set_option linter.unusedSimpArgs false
set_option linter.unusedSectionVars false
theorem find_l0 (l : List Int) (y : Int) (hl : l.length ≤ 140737488351232) : ∀ d i : Nat, i + d = l.length → Ev (fun k => spec_l5Find.l0 k l y i) (if y ∈ l.drop i then ((i + (l.drop i).idxOf y : Nat) : Int) else -1) := by
  intro d
  induction d with
  | zero =>
    intro i h
    refine next ?_
    simp only [spec_l5Find.l0, if_neg (show ¬ (i : Int) < (l.length : Int) by omega)]
    exact ev_some (by rw [List.drop_eq_nil_of_le (by omega)]; simp)
  | succ d ih =>
    intro i h
    have hi : i < l.length := by omega
    refine next ?_
    simp only [spec_l5Find.l0, if_pos (show (i : Int) < (l.length : Int) by omega), if_pos (show (0 : Int) ≤ i by omega), rd_get l i hi]
    rw [List.drop_eq_getElem_cons hi]
    by_cases he : l[i] = y
    · simp only [if_pos he]
      exact ev_some (by rw [if_pos (by simp [he]), List.idxOf_cons, he]; simp)
    · simp only [if_neg he, up1 (show i < 9223372036854775807 by omega)]
      refine ev_eq (ih (i + 1) (by omega)) ?_
      have hne : ¬ y = l[i] := fun e => he e.symm
      by_cases hm : y ∈ l.drop (i + 1)
      · rw [if_pos hm, if_pos (List.mem_cons_of_mem _ hm), List.idxOf_cons, beq_false_of_ne he]
        simp only [cond_false]
        omega
      · rw [if_neg hm, if_neg (fun hh => by rcases List.mem_cons.mp hh with q | q; exact hne q; exact hm q)]
theorem spec_find (l : List Int) (y : Int) (hl : l.length ≤ 140737488351232) : Ev (fun k => spec_l5Find.f k l y) (if y ∈ l then (l.idxOf y : Int) else -1) := by
  simp only [spec_l5Find.f]
  have := find_l0 l y hl l.length 0 (by omega)
  rw [List.drop_zero, Nat.zero_add] at this
  exact this
section
variable (acc goal : List Bool) (nxt : List (List Int)) (n : Nat) (hn : n ≤ 2000) (hl : nxt.length = n) (hg : goal.length = n) (hrow : ∀ r ∈ nxt, r.length = 3 ∧ ∀ q ∈ r, 0 ≤ q ∧ q < (n : Int))
include hn hl hg hrow
theorem nx_row {x : Int} (hx : 0 ≤ x ∧ x < n) : rd_L1 nxt x = nxt.getD x.toNat [] ∧ (nxt.getD x.toNat []).length = 3 ∧ ∀ j, j < 3 → 0 ≤ nxD nxt x j ∧ nxD nxt x j < n := by
  have hlt : x.toNat < nxt.length := by omega
  have e : nxt.getD x.toNat [] = nxt[x.toNat] := by rw [List.getD_eq_getElem?_getD, List.getElem?_eq_getElem hlt]; rfl
  have hr := hrow _ (List.getElem_mem hlt)
  refine ⟨?_, by rw [e]; exact hr.1, fun j hj => ?_⟩
  · obtain ⟨m, rfl⟩ := Int.eq_ofNat_of_zero_le hx.1
    rw [rows_get nxt m (by simpa using hlt), e]
    rfl
  · unfold nxD
    rw [e, rd_get _ j (by omega)]
    exact hr.2 _ (List.getElem_mem _)
theorem l7_l1 (x : Int) (wd : ByteArray) (i : Nat) (hx : 0 ≤ x ∧ x < n) (res : ByteArray × Bool) : ∀ (d j : Nat) (p : St Int), j + d = 3 → Bf.Fit (fun x => 0 ≤ x ∧ x < (n : Int)) n p → p.1[i]? = some x → p.2[i]? = some wd →
    Ev (fun k => spec_l7First.l0 k goal (ex (nxD nxt) x wd d j p).1 (ex (nxD nxt) x wd d j p).2 ((i + 1 : Nat) : Int) acc nxt) res → Ev (fun k => spec_l7First.l1 k goal p.1 p.2 i j acc nxt) res := by
  intro d
  induction d with
  | zero =>
    intro j p hj hf h1 h2 he
    have hi : i < p.1.length := (List.getElem?_eq_some_iff.mp h1).1
    have hle := hf.le
    refine next ?_
    simp only [spec_l7First.l1, if_neg (show ¬ (j : Int) < 3 by omega), up1 (show i < 9223372036854775807 by omega)]
    exact he
  | succ d ih =>
    intro j p hj hf h1 h2 he
    obtain ⟨hi, e1⟩ := List.getElem?_eq_some_iff.mp h1
    obtain ⟨hi2, e2⟩ := List.getElem?_eq_some_iff.mp h2
    have hle := hf.le
    have hlen := hf.len
    obtain ⟨r1, r2, r3⟩ := nx_row goal nxt n hn hl hg hrow hx
    have hz : wd.size ≤ i := by
      have := hf.size i
      rw [List.getD_eq_getElem?_getD, h2] at this
      exact this
    have hy := r3 j (by omega)
    have epc : (⟨#[97, 98, 99]⟩ : ByteArray).extract ((j : Int)).toNat ((wrap64 ((j : Int) + 1)) : Int).toNat = pc j := by rw [up1 (by omega), Int.toNat_natCast, Int.toNat_natCast]; rfl
    refine next ?_
    simp only [spec_l7First.l1, if_pos (show (j : Int) < 3 by omega), if_pos (show (0 : Int) ≤ i by omega), if_pos (show (i : Int) < (p.1.length : Int) by omega), rd_get p.1 i hi, e1, if_pos hx.1, if_pos (show x < (nxt.length : Int) by omega), if_pos (show (0 : Int) ≤ j by omega), r1, r2, if_pos (show (j : Int) < ((3 : Nat) : Int) by omega)]
    refine Ev.bind (spec_find p.1 _ (by omega)) ?_
    have e3 : rd (nxt.getD x.toNat []) (j : Int) = nxD nxt x j := rfl
    rw [ex] at he
    simp only [e3]
    by_cases hm : nxD nxt x j ∈ p.1
    · rw [show put (nxD nxt x j) (wd ++ pc j) p = p by unfold put; rw [if_pos hm]] at he
      simp only [if_pos hm, if_neg (show ¬ ((List.idxOf (nxD nxt x j) p.1 : Nat) : Int) < 0 by omega)]
      have := ih (j + 1) p (by omega) hf h1 h2 he
      rw [← up1 (by omega)] at this
      exact this
    · have ep : put (nxD nxt x j) (wd ++ pc j) p = (p.1 ++ [nxD nxt x j], p.2 ++ [wd ++ pc j]) := by unfold put; rw [if_neg hm]
      have hf2 := fit_put hf hy (wd := wd ++ pc j) (by rw [ByteArray.size_append, size_pc j (by omega)]; omega)
      rw [ep] at he hf2
      simp only [if_neg hm, if_pos (show (-1 : Int) < 0 by omega), if_pos (show p.1.length < 17592186044416 by omega), if_pos (show (i : Int) < (p.2.length : Int) by omega), epc, if_pos (show (j : Int) ≤ wrap64 ((j : Int) + 1) by rw [up1 (by omega)]; omega), if_pos (show wrap64 ((j : Int) + 1) ≤ 3 by rw [up1 (by omega)]; omega), rdOf_get _ p.2 i hi2, e2, size_pc j (show j < 3 by omega), if_pos (show wd.size + 1 ≤ 9223372036854775807 by omega), if_pos (show p.2.length < 8796093022208 by omega)]
      have := ih (j + 1) (p.1 ++ [nxD nxt x j], p.2 ++ [wd ++ pc j]) (by omega) hf2 (by rw [List.getElem?_append_left hi]; exact h1) (by rw [List.getElem?_append_left hi2]; exact h2) he
      rw [← up1 (by omega)] at this
      exact this
theorem l7_l0 : ∀ (d : Nat) (p : St Int) (i : Nat), Bf.Fit (fun x => 0 ≤ x ∧ x < (n : Int)) n p → i ≤ p.1.length → n + 2 ≤ d + i → Ev (fun k => spec_l7First.l0 k goal p.1 p.2 i acc nxt) (bfs (fun x => rdOf false goal x) (nxD nxt) d p i) := by
  intro d
  induction d with
  | zero => intro p i hf hi hd; have := hf.le; omega
  | succ d ih =>
    intro p i hf hi hd
    have hle := hf.le
    have hlen := hf.len
    refine next ?_
    rw [bfs]
    by_cases h : i < p.1.length
    · rw [dif_pos h]
      have hx := hf.all _ (List.getElem_mem h)
      have h2 : p.2[i]? = some p.2[i] := List.getElem?_eq_getElem (by omega)
      have hgd : p.2.getD i ByteArray.empty = p.2[i] := by rw [List.getD_eq_getElem?_getD, h2]; rfl
      simp only [spec_l7First.l0, if_pos (show (i : Int) < (p.1.length : Int) by omega), if_pos (show (0 : Int) ≤ i by omega), rd_get p.1 i h, if_pos hx.1, if_pos (show p.1[i] < (goal.length : Int) by omega)]
      by_cases hgo : rdOf false goal p.1[i] = true
      · simp only [hgo, if_true, if_pos (show (i : Int) < (p.2.length : Int) by omega), rdOf_get _ p.2 i (by omega), hgd]
        exact Ev.now _
      · simp only [hgo, if_false, hgd, Bool.false_eq_true]
        have hz : p.2[i].size ≤ i := by
          have := hf.size i
          rw [hgd] at this
          exact this
        obtain ⟨_, _, r3⟩ := nx_row goal nxt n hn hl hg hrow hx
        obtain ⟨f1, f2⟩ := fit_ex (nx := nxD nxt) hx (fun x j hx hj => (nx_row goal nxt n hn hl hg hrow hx).2.2 j hj) (wd := p.2[i]) 3 0 p (by omega) hf (by omega)
        exact l7_l1 acc goal nxt n hn hl hg hrow p.1[i] p.2[i] i hx _ 3 0 p (by omega) hf (List.getElem?_eq_getElem h) h2 (ih _ (i + 1) f1 (by omega) (by omega))
    · rw [dif_neg h]
      simp only [spec_l7First.l0, if_neg (show ¬ (i : Int) < (p.1.length : Int) by omega)]
      exact Ev.now _
theorem spec_first (h1 : 1 ≤ n) : Ev (fun k => spec_l7First.f k acc nxt goal) (bfs (fun x => rdOf false goal x) (nxD nxt) (n + 2) ([0], [(⟨#[]⟩ : ByteArray)]) 0) := by
  simp only [spec_l7First.f]
  exact l7_l0 acc goal nxt n hn hl hg hrow (n + 2) ([0], [(⟨#[]⟩ : ByteArray)]) 0 (fit0 ⟨by omega, by omega⟩ (fun s hs ha => card_range n s hs ha)) (by simp) (by omega)
end
theorem bfs_more {α : Type} [DecidableEq α] {dom : α → Prop} {N : Nat} {good : α → Bool} {nx : α → Nat → α} (hd : ∀ x j, dom x → j < 3 → dom (nx x j)) : ∀ (d d' : Nat) (p : St α) (i : Nat), Bf.Fit dom N p → i ≤ p.1.length → N + 1 ≤ d + i → N + 1 ≤ d' + i → bfs good nx d p i = bfs good nx d' p i := by
  intro d
  induction d with
  | zero => intro d' p i hf hi h1 h2; have := hf.le; omega
  | succ d ih =>
    intro d' p i hf hi h1 h2
    have hle := hf.le
    cases d' with
    | zero => omega
    | succ d' =>
      rw [bfs, bfs]
      by_cases h : i < p.1.length
      · rw [dif_pos h, dif_pos h]
        split
        · rfl
        · have hz : (p.2.getD i ByteArray.empty).size ≤ i := hf.size i
          obtain ⟨f1, f2⟩ := fit_ex (nx := nx) (hf.all _ (List.getElem_mem h)) hd (wd := p.2.getD i ByteArray.empty) 3 0 p (by omega) hf (by omega)
          exact ih d' _ (i + 1) f1 (by omega) (by omega) (by omega)
      · rw [dif_neg h, dif_neg h]
end Go.Proofs.Ytogamkblkoobkaa.Pl
end
section
namespace Go.Proofs.Ytogamkblkoobkaa.Pl
open Go.RowKit Go.Proofs.Ytogamkblkoobkaa Go.Proofs.Ytogamkblkoobkaa.P Go.Proofs.YtogamkblkoobkaaW.PrintWords Go.Proofs.YtogamkblkoobkaaW.PrintLast Go.Proofs.YtogamkblkoobkaaW.PrintMore Wk Bf
set_option linter.unusedVariables false
set_option linter.unusedSimpArgs false
theorem spec_shortest (a : List Bool) (n : List (List Int)) (s1 : a.length ≤ 1048576) (s2 : n.length ≤ 1048576) : Ev (fun k => spec_ShortestWord.f k a n) (shW a n) := by
  unfold shW
  simp only [spec_ShortestWord.f]
  refine Ev.bind (spec_valid a n s1 s2) ?_
  by_cases hv : validD a n = true
  · simp only [hv, if_true]
    obtain ⟨v1, v2, v3, v4⟩ := validD_facts hv
    refine Ev.bind (ev_eq (spec_first a a n a.length (by omega) v3 rfl v4 v1) (bfs_more (dom := fun x => 0 ≤ x ∧ x < (a.length : Int)) (N := a.length) (fun x j hx hj => (nx_row a n a.length (by omega) v3 rfl v4 hx).2.2 j hj) _ 42 _ 0 (fit0 ⟨by omega, by omega⟩ (fun s hs ha => card_range a.length s hs ha)) (by simp) (by omega) (by omega))) ?_
    exact Ev.now _
  · simp only [hv, if_false]
    exact Ev.now _
end Go.Proofs.Ytogamkblkoobkaa.Pl
end
section
namespace Go.Proofs.Ytogamkblkoobkaa.P
open Go.RowKit Go.Proofs.YtogamkblkoobkaaW.PrintWords Go.Proofs.YtogamkblkoobkaaW.PrintLast Go.Proofs.YtogamkblkoobkaaW.PrintMore
attribute [local go_sem] max2_int min2_int max_two min_two max_three min_three max_four min_four
set_option linter.unusedVariables false
set_option linter.unusedSimpArgs false
end Go.Proofs.Ytogamkblkoobkaa.P
end
section
namespace Go.Proofs.Ytogamkblkoobkaa.Pl
open Go.RowKit Go.Proofs.Ytogamkblkoobkaa.P Go.Proofs.YtogamkblkoobkaaW.PrintWords Go.Proofs.YtogamkblkoobkaaW.PrintLast Go.Proofs.YtogamkblkoobkaaW.PrintMore
set_option linter.unusedVariables false
set_option linter.unusedSimpArgs false
theorem new_l0 (b : List Int) (hb : b.length ≤ 140737488351232) : ∀ (d i : Nat) (h : Int), i + d = b.length → ∃ r, Ev (fun k => spec_l1New.l0 k b h i) (b, 0, r) := by
  intro d
  induction d with
  | zero =>
    intro i h e
    refine ⟨h, next ?_⟩
    simp only [spec_l1New.l0, if_neg (show ¬ (i : Int) < (b.length : Int) by omega)]
    exact Ev.now _
  | succ d ih =>
    intro i h e
    by_cases hi : (i : Int) < 4000
    · obtain ⟨r, hr⟩ := ih (i + 1) (Go.bits .and .i64 (wrap64 ((wrap64 ((wrap64 (h * 131)) + (wrap64 (rd b i)))) + 7)) 1073741823) (by omega)
      refine ⟨r, next ?_⟩
      simp only [spec_l1New.l0, if_pos (show (i : Int) < (b.length : Int) by omega), if_pos hi, if_pos (show (0 : Int) ≤ i by omega), up1 (show i < 9223372036854775807 by omega)]
      exact hr
    · refine ⟨h, next ?_⟩
      simp only [spec_l1New.l0, if_pos (show (i : Int) < (b.length : Int) by omega), if_neg hi]
      exact Ev.now _
theorem new (b : List Int) (hb : b.length ≤ 140737488351232) : ∃ r, Ev (fun k => spec_l1New.f k b) (b, 0, r) := by
  simp only [spec_l1New.f]
  exact new_l0 b hb b.length 0 _ (by omega)
theorem and255 (x : Int) : 0 ≤ Go.bits .and .i64 x 255 ∧ Go.bits .and .i64 x 255 ≤ 255 := by
  have h : (BitVec.ofInt 64 x &&& BitVec.ofInt 64 255).toNat ≤ 255 := by
    rw [BitVec.toNat_and]
    exact Nat.and_le_right
  have e : Go.bits .and .i64 x 255 = ((BitVec.ofInt 64 x &&& BitVec.ofInt 64 255).toNat : Int) := by
    show IntKind.i64.wrap ((BitVec.ofInt 64 x &&& BitVec.ofInt 64 255).toNat : Int) = _
    rw [IntKind.wrap_i64]
    omega
  omega
def Cur (b : List Int) (i : Int) : Prop := 0 ≤ i ∧ i ≤ b.length
theorem byte (b : List Int) (hb : b.length ≤ 140737488351232) (i h : Int) (hi : Cur b i) : ∃ x i' h', spec_l1Byte.f b i h = some (x, i', h') ∧ 0 ≤ x ∧ x ≤ 255 ∧ Cur b i' := by
  unfold Cur at hi ⊢
  by_cases hl : i < (b.length : Int)
  · unfold spec_l1Byte.f
    rw [if_pos hl, if_pos hi.1, w64 (show -9223372036854775808 ≤ i + 1 by omega) (by omega)]
    exact ⟨_, _, _, rfl, (and255 _).1, (and255 _).2, by omega, by omega⟩
  · unfold spec_l1Byte.f
    rw [if_neg hl]
    exact ⟨_, _, _, rfl, (and255 _).1, (and255 _).2, by omega, by omega⟩
theorem below (b : List Int) (hb : b.length ≤ 140737488351232) (i h : Int) (hi : Cur b i) (n : Int) (hn : 0 < n) (hn2 : n ≤ 256) : ∃ x i' h', spec_l1Below.f b i h n = some (x, i', h') ∧ 0 ≤ x ∧ x < n ∧ Cur b i' := by
  obtain ⟨x, i', h', e, hx, hx2, hc⟩ := byte b hb i h hi
  refine ⟨x % n, i', h', ?_, by exact Int.emod_nonneg _ (by omega), Int.emod_lt_of_pos _ hn, hc⟩
  simp only [spec_l1Below.f, if_neg (show ¬ n ≤ 0 by omega), if_pos hn2, e, Option.bind_some, if_neg (show ¬ n = 0 by omega), Int.tmod_eq_emod_of_nonneg hx]
theorem cur0 (b : List Int) : Cur b 0 := ⟨by omega, by omega⟩
end Go.Proofs.Ytogamkblkoobkaa.Pl
end
section
namespace Go.Proofs.Ytogamkblkoobkaa.Pl
open Go.RowKit Go.Proofs.Ytogamkblkoobkaa.P Go.Proofs.YtogamkblkoobkaaW.PrintWords Go.Proofs.YtogamkblkoobkaaW.PrintLast Go.Proofs.YtogamkblkoobkaaW.PrintMore
set_option linter.unusedVariables false
set_option linter.unusedSimpArgs false
def OkRow (n : Nat) (r : List Int) : Prop := r.length = 3 ∧ ∀ q ∈ r, 0 ≤ q ∧ q < (n : Int)
section
variable (b : List Int) (hb : b.length ≤ 140737488351232)
include hb
theorem once (i h : Int) (hi : Cur b i) (n : Int) (hn : 0 < n) (hn2 : n ≤ 256) : ∃ x i' h', spec_l1Once.f b i h n = some (x, i', h') ∧ Cur b i' := by
  obtain ⟨x, i', h', e, _, _, hc⟩ := below b hb i h hi n hn hn2
  refine ⟨x == 0, i', h', ?_, hc⟩
  simp only [spec_l1Once.f, e, Option.bind_some]
theorem draw_row (n : Nat) (hn : 1 ≤ n) (hn2 : n ≤ 100) (q : Int) (hq : 0 ≤ q ∧ q ≤ 1000) (acc : List Bool) (nx : List (List Int)) (hx : nx.length ≤ 1000) : ∀ (d j : Nat) (row : List Int) (i h : Int), j + d = 3 → row.length = j → (∀ x ∈ row, 0 ≤ x ∧ x < (n : Int)) → Cur b i →
    ∃ row' i' h', OkRow n row' ∧ Cur b i' ∧ ∀ r, Ev (fun k => spec_l5Draw.l0 k (n : Int) (q + 1) b i' h' acc (nx ++ [row'])) r → Ev (fun k => spec_l5Draw.l1 k (n : Int) q row (j : Int) b i h acc nx) r := by
  intro d
  induction d with
  | zero =>
    intro j row i h hj hr ho hi
    refine ⟨row, i, h, ⟨by omega, ho⟩, hi, fun r hrr => next ?_⟩
    simp only [spec_l5Draw.l1, if_neg (show ¬ (j : Int) < 3 by omega), if_pos (show nx.length < 5864062014805 by omega)]
    rw [w64 (show -9223372036854775808 ≤ q + 1 by omega) (by omega)]
    exact hrr
  | succ d ih =>
    intro j row i h hj hr ho hi
    obtain ⟨x, i1, h1, e, x0, x1, c1⟩ := below b hb i h hi (n : Int) (by omega) (by omega)
    obtain ⟨row', i', h', o', c', H⟩ := ih (j + 1) (row ++ [x]) i1 h1 (by omega) (by simp [hr]) (fun y hy => by
      rcases List.mem_append.mp hy with hy | hy
      · exact ho y hy
      · rw [List.mem_singleton] at hy; subst hy; exact ⟨x0, x1⟩) c1
    refine ⟨row', i', h', o', c', fun r hrr => next ?_⟩
    simp only [spec_l5Draw.l1, if_pos (show (j : Int) < 3 by omega), e, Option.bind_some, if_pos (show row.length < 17592186044416 by omega)]
    rw [up1 (by omega)]
    exact H r hrr
theorem draw_l0 (n : Nat) (hn : 1 ≤ n) (hn2 : n ≤ 100) : ∀ (d q : Nat) (acc : List Bool) (nx : List (List Int)) (i h : Int), q + d = n → acc.length = q → nx.length = q → (∀ r ∈ nx, OkRow n r) → Cur b i →
    ∃ acc' nx' i' h', Ev (fun k => spec_l5Draw.l0 k (n : Int) (q : Int) b i h acc nx) (acc', nx', i', h') ∧ acc'.length = n ∧ nx'.length = n ∧ (∀ r ∈ nx', OkRow n r) ∧ Cur b i' := by
  intro d
  induction d with
  | zero =>
    intro q acc nx i h hq ha hx ho hi
    refine ⟨acc, nx, i, h, next ?_, by omega, by omega, ho, hi⟩
    simp only [spec_l5Draw.l0, if_neg (show ¬ (q : Int) < (n : Int) by omega)]
    exact Ev.now _
  | succ d ih =>
    intro q acc nx i h hq ha hx ho hi
    obtain ⟨x, i1, h1, e, c1⟩ := once b hb i h hi 2 (by omega) (by omega)
    obtain ⟨row', i2, h2, o2, c2, H⟩ := draw_row b hb n hn hn2 (q : Int) (by omega) (acc ++ [x]) nx (by omega) 3 0 [] i1 h1 rfl rfl (fun _ hx => by cases hx) c1
    obtain ⟨acc', nx', i', h', hev, la, ln, oo, cc⟩ := ih (q + 1) (acc ++ [x]) (nx ++ [row']) i2 h2 (by omega) (by simp [ha]) (by simp [hx]) (fun r hr => by
      rcases List.mem_append.mp hr with hr | hr
      · exact ho r hr
      · rw [List.mem_singleton] at hr; subst hr; exact o2) c2
    refine ⟨acc', nx', i', h', next ?_, la, ln, oo, cc⟩
    simp only [spec_l5Draw.l0, if_pos (show (q : Int) < (n : Int) by omega), e, Option.bind_some, if_pos (show acc.length < 140737488355328 by omega)]
    exact H _ hev
theorem draw (i h : Int) (hi : Cur b i) (m : Nat) (hm : 1 ≤ m) (hm2 : m ≤ 99) : ∃ acc nx i' h', Ev (fun k => spec_l5Draw.f k b i h (m : Int)) (acc, nx, i', h') ∧ 1 ≤ acc.length ∧ acc.length ≤ m ∧ nx.length = acc.length ∧ (∀ r ∈ nx, OkRow acc.length r) ∧ Cur b i' := by
  obtain ⟨x, i1, h1, e, x0, x1, c1⟩ := below b hb i h hi (m : Int) (by omega) (by omega)
  obtain ⟨t, rfl⟩ : ∃ t : Nat, x = (t : Int) := ⟨x.toNat, by omega⟩
  obtain ⟨acc, nx, i', h', hev, la, ln, oo, cc⟩ := draw_l0 b hb (t + 1) (by omega) (by omega) (t + 1) 0 [] [] i1 h1 (by omega) rfl rfl (fun _ hx => by cases hx) c1
  refine ⟨acc, nx, i', h', ?_, by omega, by omega, by omega, by rw [la]; exact oo, cc⟩
  simp only [spec_l5Draw.f, e, Option.bind_some]
  rw [w64 (show -9223372036854775808 ≤ 1 + (t : Int) by omega) (by omega), show 1 + (t : Int) = ((t + 1 : Nat) : Int) by omega]
  exact hev
theorem bent (i h : Int) (hi : Cur b i) : ∃ acc nx i' h', Ev (fun k => spec_l5Bent.f k b i h) (acc, nx, i', h') ∧ acc.length ≤ 6 ∧ nx.length ≤ 6 ∧ (∀ r ∈ nx, r.length ≤ 4) ∧ Cur b i' := by
  obtain ⟨acc, nx, i1, h1, hev, a1, a2, a3, a4, c1⟩ := draw b hb i h hi 5 (by omega) (by omega)
  obtain ⟨x, i2, h2, e, x0, x1, c2⟩ := below b hb i1 h1 c1 12 (by omega) (by omega)
  have h0 : 0 < nx.length := by omega
  have hr0 : (rd_L1 nx 0).length = 3 := by
    show (nx.getD (0 : Int).toNat []).length = 3
    rw [List.getD_eq_getElem?_getD, show (0 : Int).toNat = 0 from rfl, List.getElem?_eq_getElem h0]
    exact (a4 _ (List.getElem_mem h0)).1
  have hset : ∀ y : List Int, y.length ≤ 4 → ∀ r ∈ nx.set 0 y, r.length ≤ 4 := fun y hy r hr => by
    rcases List.mem_or_eq_of_mem_set hr with hr | hr
    · have := (a4 r hr).1; omega
    · subst hr; exact hy
  by_cases e0 : x = 0
  · refine ⟨acc, nx.set 0 ((rd_L1 nx 0).set 0 (acc.length : Int)), i2, h2, ?_, by omega, by rw [List.length_set]; omega, hset _ (by rw [List.length_set]; omega), c2⟩
    simp only [spec_l5Bent.f]
    refine Ev.bind hev ?_
    simp only [e, Option.bind_some, if_pos e0, if_pos (show (0 : Int) < (nx.length : Int) by omega), if_pos (show (0 : Int) < ((rd_L1 nx 0).length : Int) by omega)]
    exact Ev.now _
  · by_cases e1 : x = 1
    · refine ⟨acc ++ [true], nx, i2, h2, ?_, by simp; omega, by omega, fun r hr => by have := (a4 r hr).1; omega, c2⟩
      simp only [spec_l5Bent.f]
      refine Ev.bind hev ?_
      simp only [e, Option.bind_some, if_neg e0, if_pos e1, if_pos (show acc.length < 140737488355328 by omega)]
      exact Ev.now _
    · by_cases e2 : x = 2
      · refine ⟨acc, nx.set 0 ((rd_L1 nx 0) ++ [0]), i2, h2, ?_, by omega, by rw [List.length_set]; omega, hset _ (by rw [List.length_append, hr0]; decide), c2⟩
        simp only [spec_l5Bent.f]
        refine Ev.bind hev ?_
        simp only [e, Option.bind_some, if_neg e0, if_neg e1, if_pos e2, if_pos (show (0 : Int) < (nx.length : Int) by omega), if_pos (show (rd_L1 nx 0).length < 17592186044416 by omega)]
        exact Ev.now _
      · refine ⟨acc, nx, i2, h2, ?_, by omega, by omega, fun r hr => by have := (a4 r hr).1; omega, c2⟩
        simp only [spec_l5Bent.f]
        refine Ev.bind hev ?_
        simp only [e, Option.bind_some, if_neg e0, if_neg e1, if_neg e2]
        exact Ev.now _
end
end Go.Proofs.Ytogamkblkoobkaa.Pl
end
section
namespace Go.Proofs.Ytogamkblkoobkaa.Pl
open Go.RowKit Go.Proofs.Ytogamkblkoobkaa.P Go.Proofs.YtogamkblkoobkaaW.PrintWords Go.Proofs.YtogamkblkoobkaaW.PrintLast Go.Proofs.YtogamkblkoobkaaW.PrintMore Wk Rk
set_option linter.unusedVariables false
set_option linter.unusedSimpArgs false
theorem spec_ints_l0 (a b : List Int) (hl : a.length = b.length) (hn : a.length ≤ 1048576) : ∀ d i : Nat, i + d = a.length → Ev (fun k => spec_l5Ints.l0 k a b i) (decide (a.drop i = b.drop i)) := by
  intro d
  induction d with
  | zero =>
    intro i h
    refine next ?_
    simp only [spec_l5Ints.l0, if_neg (show ¬ (i : Int) < (a.length : Int) by omega)]
    exact ev_some (by rw [List.drop_eq_nil_of_le (by omega), List.drop_eq_nil_of_le (by omega)]; simp)
  | succ d ih =>
    intro i h
    refine next ?_
    have ha : i < a.length := by omega
    have hb : i < b.length := by omega
    have e : (a.drop i = b.drop i) ↔ (a[i] = b[i] ∧ a.drop (i + 1) = b.drop (i + 1)) := by
      rw [List.drop_eq_getElem_cons ha, List.drop_eq_getElem_cons hb]
      exact List.cons_eq_cons
    simp only [spec_l5Ints.l0, if_pos (show (i : Int) < (a.length : Int) by omega), if_pos (show (0 : Int) ≤ i by omega), if_pos (show (i : Int) < (b.length : Int) by omega), rd_get a i ha, rd_get b i hb]
    by_cases he : a[i] = b[i]
    · simp only [if_pos he, up1 (show i < 9223372036854775807 by omega)]
      exact ev_eq (ih (i + 1) (by omega)) (decide_eq_decide.mpr (by rw [e]; exact ⟨fun x => ⟨he, x⟩, fun x => x.2⟩))
    · simp only [if_neg he]
      exact ev_some (by rw [eq_comm, decide_eq_false_iff_not, e]; exact fun x => he x.1)
theorem spec_ints (a b : List Int) (hn : a.length ≤ 1048576) : Ev (fun k => spec_l5Ints.f k a b) (decide (a = b)) := by
  simp only [spec_l5Ints.f]
  by_cases h : a.length = b.length
  · simp only [if_pos (show (a.length : Int) = (b.length : Int) by omega)]
    exact spec_ints_l0 a b h hn a.length 0 (by omega)
  · simp only [if_neg (show ¬ (a.length : Int) = (b.length : Int) by omega)]
    exact ev_some (by simp; intro e; exact h (by rw [e]))
theorem spec_equal_l1 (a : List Bool) (n : List (List Int)) (b : List Bool) (m : List (List Int)) (hl : n.length = m.length) (hn : n.length ≤ 1048576) (hx : ∀ x ∈ n, x.length ≤ 1048576) : ∀ d i : Nat, i + d = n.length → Ev (fun k => spec_EqualDfa.l1 k i a n b m) (decide (n.drop i = m.drop i)) := by
  intro d
  induction d with
  | zero =>
    intro i h
    refine next ?_
    simp only [spec_EqualDfa.l1, if_neg (show ¬ (i : Int) < (n.length : Int) by omega)]
    exact ev_some (by rw [List.drop_eq_nil_of_le (by omega), List.drop_eq_nil_of_le (by omega)]; simp)
  | succ d ih =>
    intro i h
    refine next ?_
    have ha : i < n.length := by omega
    have hb : i < m.length := by omega
    have e : (n.drop i = m.drop i) ↔ (n[i] = m[i] ∧ n.drop (i + 1) = m.drop (i + 1)) := by
      rw [List.drop_eq_getElem_cons ha, List.drop_eq_getElem_cons hb]
      exact List.cons_eq_cons
    simp only [spec_EqualDfa.l1, if_pos (show (i : Int) < (n.length : Int) by omega), if_pos (show (0 : Int) ≤ i by omega), if_pos (show (i : Int) < (m.length : Int) by omega), rows_get n i ha, rows_get m i hb]
    refine Ev.bind (spec_ints n[i] m[i] (hx _ (List.getElem_mem _))) ?_
    by_cases he : n[i] = m[i]
    · simp only [decide_eq_true he, if_true, up1 (show i < 9223372036854775807 by omega)]
      exact ev_eq (ih (i + 1) (by omega)) (decide_eq_decide.mpr (by rw [e]; exact ⟨fun x => ⟨he, x⟩, fun x => x.2⟩))
    · simp only [decide_eq_false he, Bool.false_ne_true, if_false]
      exact ev_some (by rw [eq_comm, decide_eq_false_iff_not, e]; exact fun x => he x.1)
theorem spec_equal_l0 (a : List Bool) (n : List (List Int)) (b : List Bool) (m : List (List Int)) (hab : a.length = b.length) (ha : a.length ≤ 1048576) (hl : n.length = m.length) (hn : n.length ≤ 1048576) (hx : ∀ x ∈ n, x.length ≤ 1048576) : ∀ d i : Nat, i + d = a.length → Ev (fun k => spec_EqualDfa.l0 k i a n b m) (decide (a.drop i = b.drop i) && decide (n = m)) := by
  intro d
  induction d with
  | zero =>
    intro i h
    refine next ?_
    simp only [spec_EqualDfa.l0, if_neg (show ¬ (i : Int) < (a.length : Int) by omega)]
    rw [List.drop_eq_nil_of_le (by omega), List.drop_eq_nil_of_le (by omega)]
    simp only [decide_true, Bool.true_and]
    exact spec_equal_l1 a n b m hl hn hx n.length 0 (by omega)
  | succ d ih =>
    intro i h
    refine next ?_
    have h1 : i < a.length := by omega
    have h2 : i < b.length := by omega
    have e : (a.drop i = b.drop i) ↔ (a[i] = b[i] ∧ a.drop (i + 1) = b.drop (i + 1)) := by
      rw [List.drop_eq_getElem_cons h1, List.drop_eq_getElem_cons h2]
      exact List.cons_eq_cons
    simp only [spec_EqualDfa.l0, if_pos (show (i : Int) < (a.length : Int) by omega), if_pos (show (0 : Int) ≤ i by omega), if_pos (show (i : Int) < (b.length : Int) by omega), rdOf_get _ a i h1, rdOf_get _ b i h2]
    by_cases he : a[i] = b[i]
    · simp only [show (a[i] != b[i]) = false from bne_eq_false_iff_eq.mpr he, Bool.false_ne_true, if_false, up1 (show i < 9223372036854775807 by omega)]
      refine ev_eq (ih (i + 1) (by omega)) ?_
      rw [decide_eq_decide.mpr (show (a.drop (i + 1) = b.drop (i + 1)) ↔ (a.drop i = b.drop i) by rw [e]; exact ⟨fun x => ⟨he, x⟩, fun x => x.2⟩)]
    · simp only [show (a[i] != b[i]) = true from bne_iff_ne.mpr he, if_true]
      exact ev_some (by rw [decide_eq_false (show ¬ (a.drop i = b.drop i) by rw [e]; exact fun x => he x.1), Bool.false_and])
theorem spec_equal (a : List Bool) (n : List (List Int)) (b : List Bool) (m : List (List Int)) (ha : a.length ≤ 1048576) (hn : n.length ≤ 1048576) (hx : ∀ x ∈ n, x.length ≤ 1048576) : Ev (fun k => spec_EqualDfa.f k a n b m) (decide (a = b) && decide (n = m)) := by
  have jt : Ev (fun k => spec_EqualDfa.j0 k true a n b m) false := by
    refine next ?_
    simp only [spec_EqualDfa.j0, if_true]
    exact Ev.now _
  simp only [spec_EqualDfa.f]
  by_cases h1 : a.length = b.length
  · simp only [if_pos (show (a.length : Int) = (b.length : Int) by omega)]
    by_cases h2 : n.length = m.length
    · have e2 : ((n.length : Int) != (m.length : Int)) = false := by rw [bne_eq_false_iff_eq]; omega
      simp only [e2]
      refine next ?_
      simp only [spec_EqualDfa.j0, Bool.false_ne_true, if_false]
      exact spec_equal_l0 a n b m h1 ha h2 hn hx a.length 0 (by omega)
    · have e2 : ((n.length : Int) != (m.length : Int)) = true := by rw [bne_iff_ne]; omega
      simp only [e2]
      rw [decide_eq_false (show ¬ n = m from fun e => h2 (by rw [e])), Bool.and_false]
      exact jt
  · simp only [if_neg (show ¬ (a.length : Int) = (b.length : Int) by omega)]
    rw [decide_eq_false (show ¬ a = b from fun e => h1 (by rw [e])), Bool.false_and]
    exact jt
end Go.Proofs.Ytogamkblkoobkaa.Pl
end
section
namespace Go.Proofs.Ytogamkblkoobkaa.Can
open Go.RowKit Go.Proofs.Ytogamkblkoobkaa Go.Proofs.Ytogamkblkoobkaa.P Go.Proofs.Ytogamkblkoobkaa.Wk Go.Proofs.Ytogamkblkoobkaa.Pl Go.Proofs.YtogamkblkoobkaaW.PrintWords Go.Proofs.YtogamkblkoobkaaW.PrintLast Go.Proofs.YtogamkblkoobkaaW.PrintMore
set_option linter.unusedVariables false
theorem spec_pd (a : List Bool) (n : List (List Int)) (b : List Bool) (m : List (List Int)) (k : Int) (h1 : a.length ≤ 1048576) (h2 : n.length ≤ 1048576) (h3 : b.length ≤ 1048576) (h4 : m.length ≤ 1048576) : spec_ProductDfa.f a n b m k = some (pdR a n b m k) := by
  unfold spec_ProductDfa.f
  rw [if_pos ⟨h1, h2, h3, h4⟩]
theorem pdR_len (a : List Bool) (n : List (List Int)) (b : List Bool) (m : List (List Int)) (k : Int) : (pdR a n b m k).1.length ≤ 40 ∧ (pdR a n b m k).2.1.length ≤ 40 ∧ ∀ r ∈ (pdR a n b m k).2.1, r.length = 3 := by
  unfold pdR
  by_cases h : (validD a n = true ∧ validD b m = true) ∧ (k = 6 ∨ k = 7)
  · rw [if_pos h]
    obtain ⟨q, _, hx, hau, _⟩ := pd_some (kind := k) h.1.1 h.1.2
    rw [hx]
    exact fitD_len hau.rows.1 hau.rows.2
  · rw [if_neg h]
    simp
end Go.Proofs.Ytogamkblkoobkaa.Can
end
section
namespace Go.Proofs.Ytogamkblkoobkaa.Pl
open Go.RowKit Go.Proofs.Ytogamkblkoobkaa Go.Proofs.Ytogamkblkoobkaa.P Go.Proofs.YtogamkblkoobkaaW.PrintWords Go.Proofs.YtogamkblkoobkaaW.PrintLast Go.Proofs.YtogamkblkoobkaaW.PrintMore Wk Bf Can
set_option linter.unusedVariables false
set_option linter.unusedSimpArgs false
theorem draw_shortest (l0 : List Int) (h1 : l0.length ≤ 140737488351232) : ∃ a n, Ev (fun k => spec_DrawShortestWord.f k l0) (a, n) ∧ a.length ≤ 6 ∧ n.length ≤ 6 := by
  obtain ⟨r, hr⟩ := new l0 h1
  obtain ⟨x, i2, g2, e, c2⟩ := once l0 h1 0 r (cur0 l0) 8 (by omega) (by omega)
  by_cases hx : x = true
  · obtain ⟨b, m, i3, g3, hev2, b1, b2, b3, c3⟩ := bent l0 h1 i2 g2 c2
    refine ⟨b, m, ?_, b1, b2⟩
    simp only [spec_DrawShortestWord.f, spec_DrawMinimizeDfa.f]
    refine Ev.bind (a := (b, m)) (Ev.bind hr ?_) (Ev.now _)
    simp only [e, Option.bind_some, if_pos hx]
    exact Ev.bind hev2 (Ev.now _)
  · obtain ⟨a, n, i1, g1, hev, a1, a2, a3, a4, c1⟩ := draw l0 h1 i2 g2 c2 6 (by omega) (by omega)
    refine ⟨a, n, ?_, a2, by omega⟩
    simp only [spec_DrawShortestWord.f, spec_DrawMinimizeDfa.f]
    refine Ev.bind (a := (a, n)) (Ev.bind hr ?_) (Ev.now _)
    simp only [e, Option.bind_some, if_neg hx]
    exact Ev.bind hev (Ev.now _)
theorem draw_included (l0 : List Int) (h1 : l0.length ≤ 140737488351232) : ∃ a n b m, Ev (fun k => spec_DrawIsIncluded.f k l0) (a, n, b, m) ∧ a.length ≤ 40 ∧ n.length ≤ 40 ∧ b.length ≤ 40 ∧ m.length ≤ 40 := by
  obtain ⟨r, hr⟩ := new l0 h1
  obtain ⟨a, n, i1, g1, hev, a1, a2, a3, a4, c1⟩ := draw l0 h1 0 r (cur0 l0) 3 (by omega) (by omega)
  obtain ⟨b, m, i2, g2, hev2, b1, b2, b3, b4, c2⟩ := draw l0 h1 i1 g1 c1 3 (by omega) (by omega)
  obtain ⟨x, i3, g3, e, c3⟩ := once l0 h1 i2 g2 c2 2 (by omega) (by omega)
  by_cases hx : x = true
  · obtain ⟨m1, m2, m3⟩ := pdR_len a n b m 6
    refine ⟨a, n, (pdR a n b m 6).1, (pdR a n b m 6).2.1, ?_, by omega, by omega, m1, m2⟩
    simp only [spec_DrawIsIncluded.f]
    refine Ev.bind hr (Ev.bind hev (Ev.bind hev2 ?_))
    simp only [e, Option.bind_some, if_pos hx, spec_pd a n b m 6 (by omega) (by omega) (by omega) (by omega)]
    exact Ev.now _
  · refine ⟨a, n, b, m, ?_, by omega, by omega, by omega, by omega⟩
    simp only [spec_DrawIsIncluded.f]
    refine Ev.bind hr (Ev.bind hev (Ev.bind hev2 ?_))
    simp only [e, Option.bind_some, if_neg hx]
    exact Ev.now _
theorem cmp_first {a b : ByteArray} (ha : lets (bytesOf a) = true) (hb : lets (bytesOf b) = true) (h : wv (bytesOf b) ≤ wv (bytesOf a)) : ∃ r, impl_CompareWords.f a b = some r ∧ ¬ r < 0 := by
  unfold impl_CompareWords.f
  by_cases h1 : (a.size : Int) < (b.size : Int)
  · have := wv_less _ _ ha hb (by rw [len_bytes, len_bytes]; omega)
    omega
  · rw [if_neg h1]
    by_cases h2 : (a.size : Int) > (b.size : Int)
    · rw [if_pos h2]
      exact ⟨1, rfl, by omega⟩
    · rw [if_neg h2]
      by_cases h3 : Op.bytesLess a.toList b.toList = true
      · have := less_words ha hb (by omega) h3
        omega
      · rw [if_neg h3]
        by_cases h4 : a.toList = b.toList
        · rw [if_pos h4]
          exact ⟨0, rfl, by omega⟩
        · rw [if_neg h4]
          exact ⟨1, rfl, by omega⟩
theorem shortest_tail (l0 : List Int) (h1 : l0.length ≤ 140737488351232) (s : ByteArray) (ok : Bool) (ws : List ByteArray) (a : List Bool) (n : List (List Int)) (i : Nat) (hi : ws.length ≤ i) : Ev (fun k => laws_FnShortest.l0 k l0 s ok ws (i : Int) a n) true := by
  obtain ⟨a', n', b', m', hev, a1, a2, b1, b2⟩ := draw_included l0 h1
  refine next ?_
  simp only [laws_FnShortest.l0, if_neg (show ¬ (i : Int) < (ws.length : Int) by omega)]
  refine Ev.bind hev ?_
  simp only [spec_pd a' n' b' m' 6 (by omega) (by omega) (by omega) (by omega), Option.bind_some]
  by_cases hf : (pdR a' n' b' m' 6).2.2 = true
  · simp only [hf, if_true, impl_IsIncluded.f, Option.bind_some]
    refine Ev.bind (spec_minimize b' m' (by omega) (by omega)) ?_
    obtain ⟨p1, p2, p3⟩ := pdR_len a' n' b' m' 6
    have hin := in_union hf
    refine Ev.bind (spec_equal _ _ _ _ (by omega) (by omega) (fun x hx => by have := p3 x hx; omega)) ?_
    exact ev_some (by rw [hin]; simp)
  · simp only [eq_false_of_ne_true hf, Bool.false_eq_true, if_false]
    exact Ev.now _
theorem shortest_l0 (l0 : List Int) (h1 : l0.length ≤ 140737488351232) (s : ByteArray) (ok : Bool) (a : List Bool) (n : List (List Int)) (ha : a.length ≤ 6) (ws : List ByteArray) (hws : ∀ w ∈ ws, lets (bytesOf w) = true ∧ w.size ≤ 5) (hl : ws.length ≤ 1000) (hsh : shW a n = (s, ok)) : ∀ d i : Nat, i + d = ws.length → Ev (fun k => laws_FnShortest.l0 k l0 s ok ws (i : Int) a n) true
  | 0, i, hi => shortest_tail l0 h1 s ok ws a n i (by omega)
  | d + 1, i, hi => by
    have h : i < ws.length := by omega
    have IH := shortest_l0 l0 h1 s ok a n ha ws hws hl hsh d (i + 1) (by omega)
    obtain ⟨w1, w2⟩ := hws _ (List.getElem_mem h)
    refine next ?_
    simp only [laws_FnShortest.l0, if_pos (show (i : Int) < (ws.length : Int) by omega), if_pos (show (0 : Int) ≤ (i : Int) by omega), rdOf_get _ ws i h]
    refine Ev.bind (impl_acc a n (by omega) _ (by omega)) ?_
    rw [up1 (by omega)]
    cases hac : accOf a n ws[i] with
    | false =>
      simp only [Bool.false_eq_true, if_false]
      exact IH
    | true =>
      simp only [if_true]
      cases ok with
      | false =>
        rw [shortest_none hsh] at hac
        cases hac
      | true =>
        simp only [if_true]
        have hv : validD a n = true := by
          unfold accOf at hac
          rw [Bool.and_eq_true, Bool.and_eq_true] at hac
          exact hac.1.1
        obtain ⟨s1, s2, s3, s4⟩ := shortest_some hv (by omega) hsh
        obtain ⟨r, hr, hr0⟩ := cmp_first w1 s2 (s4 _ hac)
        simp only [hr, Option.bind_some, if_neg hr0]
        exact IH
theorem pureFnShortest : laws_FnShortest.Pure := by
  intro l0 h0 h1 h2
  refine Ev.rounds ?_
  simp only [laws_FnShortest.f, laws_big.f, Option.bind_some]
  by_cases hbig : (l0.length : Int) > 1048576
  · simp only [decide_eq_true hbig, if_true]
    exact Ev.now _
  · simp only [decide_eq_false hbig, Bool.false_eq_true, if_false]
    obtain ⟨a, n, hev, a1, a2⟩ := draw_shortest l0 (by omega)
    refine Ev.bind hev ?_
    simp only [impl_ShortestWord.f, Option.bind_some]
    refine Ev.bind (spec_shortest a n (by omega) (by omega)) ?_
    simp only [bne_self_eq_false, Bool.false_eq_true, if_false, if_true]
    cases hsh : shW a n with
    | mk s ok =>
      have key : Ev (fun k => laws_FnShortest.j0 k l0 s ok false a n) true := by
        refine next ?_
        simp only [laws_FnShortest.j0, Bool.false_eq_true, if_false]
        refine Ev.bind (Wu.spec_upto 4) ?_
        have e : (if (4 : Int) < 0 then [] else Wu.upto (min (4 : Int) 5).toNat) = Wu.upto 4 := rfl
        rw [e]
        exact shortest_l0 l0 (by omega) s ok a n a1 (Wu.upto 4) (fun w hw => by obtain ⟨p, q⟩ := Wu.upto_words 4 w hw; exact ⟨p, by omega⟩) (Wu.len_upto 4 (by omega)).1 hsh (Wu.upto 4).length 0 (by omega)
      cases ok with
      | false =>
        simp only [Bool.false_eq_true, if_false]
        exact key
      | true =>
        simp only [if_true]
        by_cases hv : validD a n = true
        · obtain ⟨s1, s2, s3, s4⟩ := shortest_some hv (by omega) hsh
          refine Ev.bind (impl_acc a n (by omega) s (by omega)) ?_
          rw [s3]
          exact key
        · unfold shW at hsh
          rw [if_neg hv] at hsh
          cases hsh
end Go.Proofs.Ytogamkblkoobkaa.Pl
end
section
namespace Go.Proofs.Ytogamkblkoobkaa.Pure
open Go.Proofs.Ytogamkblkoobkaa.P
theorem FnShortest : laws_FnShortest.Pure := Pl.pureFnShortest
end Go.Proofs.Ytogamkblkoobkaa.Pure
end
section
namespace Go.Proofs.YtogamkblkoobkaaW.PrintWords
open Go.ChangeShapes Go.WideShapes
theorem sized_ints {H : Type} {enc : TypeId × Value → H} {P : Program} {W : World} {base : Nat} {spare : Nat → Bool} {held : Bool} {t e : TypeId} {k : IntKind} {a : Option Addr} {len cap : Nat} {d : DataW H} {ps : List MemPlace} {ts : List TypeId} {ds : List (DataW H)} {j : Nat}
    (hsz : (DataW.weightsEach P ts ds).all (· ≤ reachBytes) = true) (ht : ts[j]? = some t) (hd : ds[j]? = some d) (hu : P.underlying t = some (.slice e)) (he : P.underlying e = some (.int k)) (hc : P.cellsOf e = 1) {B : Nat} (hB : P.bytesOf e = B)
    (h : DataW.Trod enc P W base spare held t (.slice a len cap) d ps) : len * B ≤ 140737488351232 := by
  obtain ⟨fuel, hf⟩ := h
  rcases open_ints hu he hc hf with ⟨hcs, _⟩ | ⟨x, l, c, zs, hcs, _, hl, _, hz, hx, _, _⟩
  · simp [Value.cells] at hcs
    obtain ⟨rfl, rfl, rfl⟩ := hcs
    simp
  · simp [Value.cells] at hcs
    obtain ⟨rfl, rfl, rfl⟩ := hcs
    obtain ⟨hx, _⟩ := Prod.mk.inj hx
    subst hx
    have z := sized_slice hsz ht hd hu
    rw [hB] at z
    have hl2 : len ≤ zs.length := by
      rw [hz]
      split
      · exact hl
      · exact Nat.le_refl _
    have h1 : (lits (H := H) k (zs.take len)).length + (lits (H := H) k (zs.drop len)).length = zs.length := by
      simp [lits]
      omega
    rw [h1] at z
    exact Nat.le_trans (Nat.mul_le_mul_right _ hl2) z
end Go.Proofs.YtogamkblkoobkaaW.PrintWords
end
section
namespace Go.Proofs.Ytogamkblkoobkaa.fnShortest
open Go.ChangeShapes Go.WideShapes Go.ChangeAt Go.RowKit
open Go.ChangeMaps (open_string shut_string)
set_option linter.unusedVariables false
theorem own : ownKnob Try.prog.godebug = none := by kernel_rfl
theorem laidOut : laidOutB Try.prog = true := by kernel_rfl
def IsRow (k : IntKind) (w : World) (a : Option Addr) (len cap : Nat) (zs : List Int) : Prop :=
  (a = none ∧ len = 0 ∧ cap = 0 ∧ zs = []) ∨
  ∃ x, a = some x ∧ len ≤ cap ∧ cap ≤ maxLen ∧ zs.length = cap ∧ (∀ i, i < zs.length → w.cell? (x.add i) = some (.int k (zs.getD i 0))) ∧ ∀ n ∈ zs, (Lit.int k n).wf = true
set_option maxRecDepth 100000 in
theorem lifted (os : Os) (started : os.Started) (H : Type) (enc : TypeId × Value → H) :
    ReturnsInHanded {} Try.checked os 11 .any (Rows.fnShortestSpec.pre6 enc Try.prog Try.f11 Rows.fnShortestRow.domain false) (Rows.fnShortestSpec.post enc Try.prog Try.f11 false true false false) := by
  refine returnsInHanded_of_change_sized (C := Try.checked) own started (by kernel_rfl) Try.func11
    (ChangeSpec.witness6 (enc := enc) (C := Try.checked) false ⟨#[], #[.slice none 0 0], []⟩ 8 (by kernel_rfl) (by kernel_rfl) (by kernel_rfl) (by kernel_rfl)) ?_
  intro W base args ds gs before hval0 hW hcnd hsz0 _
  have hsz : (DataW.weightsEach Try.prog (Try.f11.params.toList ++ Rows.fnShortestSpec.plain.varTypes Try.prog) (ds ++ gs)).all (· ≤ reachBytes) = true := hsz0
  have hval : ∀ (j : Nat) t v, Try.f11.params[j]? = some t → args[j]? = some v → Value.okWide Try.prog W .any base t v := hval0
  have hW' := hW
  obtain ⟨p, q, hA0, hV, rfl, hfz, hnd⟩ := hW
  have hA : DataW.TrodAll enc Try.prog W 0 (fun _ => true) true Try.f11.params.toList args.toList ds p := hA0
  rw [Try.params11] at hA hval hsz
  obtain ⟨v0, vs0, d0, ds0, p0, q0, hargs, rfl, rfl, h0, r0⟩ := trodAll_cons hA
  obtain ⟨rfl, rfl, rfl⟩ := trodAll_nil r0
  obtain rfl : args = #[v0] := by cases args; simp_all
  obtain ⟨rfl, rfl⟩ := trodVars_none hV
  obtain ⟨a0, len0, cap0, rfl⟩ := okWide_slice Try.underlying41 (hval 0 41 v0 rfl rfl)
  have k0 := h0
  have lt0 : ∀ x ∈ p0, x.block < W.heap.size := by obtain ⟨m, hm⟩ := k0; exact DataW.trod_lt m _ _ _ hm
  obtain ⟨z0, w0⟩ : ∃ zs, IsRow .u8 W a0 len0 cap0 zs := by
    obtain ⟨fuel, hf⟩ := h0
    rcases open_ints Try.underlying41 Try.underlying5 (by kernel_rfl) hf with ⟨hcs, _⟩ | ⟨x, l, c, zs, hcs, _, hl, hm, hz, _, hcell, hwz⟩
    · simp [Value.cells] at hcs
      obtain ⟨rfl, rfl, rfl⟩ := hcs
      exact ⟨[], .inl ⟨rfl, rfl, rfl, rfl⟩⟩
    · simp [Value.cells] at hcs
      obtain ⟨rfl, rfl, rfl⟩ := hcs
      exact ⟨zs, .inr ⟨_, rfl, hl, hm, by simpa using hz, hcell, hwz⟩⟩
  have y0 : len0 * 1 ≤ 140737488351232 := Go.Proofs.YtogamkblkoobkaaW.PrintWords.sized_ints hsz (j := 0) (t := 41) rfl rfl Try.underlying41 Try.underlying5 (by kernel_rfl) (by kernel_rfl) h0
  clear hA0 hval0 hsz0 hsz
  refine (P.laws_FnShortest.walk Pure.FnShortest a0 len0 cap0 z0 W w0 y0).mono fun e W' ⟨he, bel⟩ => ?_
  subst he
  exact ⟨_, rfl, _, _, _, [], _, [], hW', trodAll_mk1 (shut_bool Try.underlying4 _), (trodAll_cons_mk (Below.trod laidOut (by kernel_rfl) (of_decide_eq_true (by kernel_rfl)) k0 bel lt0) trodAll_mk0), rfl, bel.frame _, fun h => by cases h⟩
theorem over : Rows.fnShortestRow.holds Try.pinned (OpenSpec.ofChange Rows.fnShortestSpec) :=
  OpenClaim.holds_of_wide 11 Try.f11 rfl rfl rfl rfl rfl rfl rfl ⟨rfl, rfl, rfl, rfl, rfl⟩ rfl rfl rfl rfl rfl (by kernel_rfl) Try.func11 (by kernel_rfl)
    (of_decide_eq_true (by kernel_rfl)) (by unfold Func.isWrapper; first | (rw [if_pos (by decide +kernel)]; kernel_rfl) | (rw [if_neg (by decide +kernel)]; exact ⟨rfl, rfl⟩))
    (fun os started H enc _ => lifted os started H enc)
theorem proved : Rows.FnShortestSaid := over
#print axioms proved
end Go.Proofs.Ytogamkblkoobkaa.fnShortest
namespace Go.Proofs.Ytogamkblkoobkaa
theorem fnShortest_holds : Rows.FnShortestSaid := fnShortest.proved
end Go.Proofs.Ytogamkblkoobkaa
end
