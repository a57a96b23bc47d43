/- What spec.l7Pairs computes, and a search over it. No condition. -/
import Derived.Test.YtoknogcefajfiaaL7
import Derived.Test.YtoknogcefajfiaaFpW
import Derived.Test.YtoknogcefajfiaaP0
import Derived.Test.YtoknogcefajfiaaP22
import Derived.Test.YtoknogcefajfiaaP26
namespace Go.Proofs.Ytoknogcefajfiaa.Pl
open Go.RowKit Go.Proofs.Ytoknogcefajfiaa Go.Proofs.Ytoknogcefajfiaa.P Go.Proofs.Ytoknogcefajfiaa.Wk Go.Proofs.Ytoknogcefajfiaa.Bf Go.Proofs.YtoknogcefajfiaaW.PrintWords Go.Proofs.YtoknogcefajfiaaW.PrintLast Go.Proofs.YtoknogcefajfiaaW.PrintMore
set_option linter.unusedVariables false
set_option linter.unusedSimpArgs false
set_option linter.unusedSectionVars false

def prs {α : Type} (n m : Nat) (f : Nat → Nat → α) : List α := (List.range m).map fun i => f (i / n) (i % n)
theorem div_of {n p q : Nat} (h : q < n) : (p * n + q) / n = p := by rw [Nat.mul_comm, Nat.mul_add_div (by omega), Nat.div_eq_of_lt h, Nat.add_zero]
theorem mod_of {n p q : Nat} (h : q < n) : (p * n + q) % n = q := by rw [Nat.mul_comm, Nat.mul_add_mod, Nat.mod_eq_of_lt h]
theorem prs_snoc {α : Type} {n p q : Nat} (h : q < n) (f : Nat → Nat → α) : prs n (p * n + q + 1) f = prs n (p * n + q) f ++ [f p q] := by
  unfold prs
  rw [List.range_succ, List.map_append, List.map_singleton, div_of h, mod_of h]
theorem prs_len {α : Type} (n m : Nat) (f : Nat → Nat → α) : (prs n m f).length = m := by simp [prs]
theorem prs_get {α : Type} {n m p q : Nat} (h : q < n) (hm : p * n + q < m) (f : Nat → Nat → α) (hl : p * n + q < (prs n m f).length) : (prs n m f)[p * n + q] = f p q := by
  simp only [prs, List.getElem_map, List.getElem_range, div_of h, mod_of h]
/-- A search, seen through a map that is one to one. -/
theorem bfs_map {α β : Type} [DecidableEq α] [DecidableEq β] {dom : α → Prop} {e : α → β} (hinj : ∀ x y, dom x → dom y → e x = e y → x = y) {good : α → Bool} {good' : β → Bool} {nx : α → Nat → α} {nx' : β → Nat → β} (hd : ∀ x j, dom x → j < 3 → dom (nx x j))
    (hg : ∀ x, dom x → good' (e x) = good x) (hn : ∀ x j, dom x → j < 3 → nx' (e x) j = e (nx x j)) : ∀ (d : Nat) (p : St α) (i : Nat), (∀ x ∈ p.1, dom x) → bfs good' nx' d (p.1.map e, p.2) i = bfs good nx d p i := by
  have hput : ∀ (y : α) (wd : ByteArray) (p : St α), dom y → (∀ x ∈ p.1, dom x) → put (e y) wd (p.1.map e, p.2) = ((put y wd p).1.map e, (put y wd p).2) ∧ ∀ z ∈ (put y wd p).1, dom z := by
    intro y wd p hy hp
    unfold put
    by_cases h : y ∈ p.1
    · rw [if_pos h, if_pos (List.mem_map_of_mem h)]
      exact ⟨rfl, hp⟩
    · rw [if_neg h, if_neg (fun hm => by
        obtain ⟨z, hz, he⟩ := List.mem_map.mp hm
        exact h (hinj z y (hp z hz) hy he ▸ hz))]
      refine ⟨by simp, fun x hx => ?_⟩
      rcases List.mem_append.mp hx with q | q
      · exact hp x q
      · rw [List.mem_singleton] at q
        subst q
        exact hy
  have hex : ∀ (x : α) (wd : ByteArray), dom x → ∀ (d j : Nat) (p : St α), j + d ≤ 3 → (∀ x ∈ p.1, dom x) → ex nx' (e x) wd d j (p.1.map e, p.2) = ((ex nx x wd d j p).1.map e, (ex nx x wd d j p).2) ∧ ∀ z ∈ (ex nx x wd d j p).1, dom z := by
    intro x wd hx d
    induction d with
    | zero => intro j p _ hp; exact ⟨rfl, hp⟩
    | succ d ih =>
      intro j p hj hp
      rw [ex, ex, hn x j hx (by omega)]
      obtain ⟨h1, h2⟩ := hput (nx x j) (wd ++ pc j) p (hd x j hx (by omega)) hp
      rw [h1]
      exact ih (j + 1) _ (by omega) h2
  intro d
  induction d with
  | zero => intro p i _; rfl
  | succ d ih =>
    intro p i hp
    rw [bfs, bfs]
    by_cases h : i < p.1.length
    · have h' : i < (p.1.map e, p.2).1.length := by simpa using h
      rw [dif_pos h, dif_pos h']
      have hdx := hp _ (List.getElem_mem h)
      have e1 : (p.1.map e, p.2).1[i] = e p.1[i] := List.getElem_map _
      rw [e1, hg _ hdx]
      obtain ⟨h1, h2⟩ := hex p.1[i] (p.2.getD i ByteArray.empty) hdx 3 0 p (by omega) hp
      rw [h1, ih _ (i + 1) h2]
    · have h' : ¬ i < (p.1.map e, p.2).1.length := by simpa using h
      rw [dif_neg h, dif_neg h']
theorem row_of {a0 : List Bool} {a1 : List (List Int)} (ha : 1 ≤ a0.length ∧ a0.length ≤ 40 ∧ a1.length = a0.length ∧ ∀ r ∈ a1, r.length = 3 ∧ ∀ q ∈ r, 0 ≤ q ∧ q < (a0.length : Int)) {p : Nat} (hp : p < a0.length) :
    (rd_L2 a1 (p : Int)).length = 3 ∧ ∀ j : Nat, j < 3 → rd (rd_L2 a1 (p : Int)) (j : Int) = nxD a1 p j ∧ 0 ≤ nxD a1 p j ∧ nxD a1 p j < (a0.length : Int) := by
  obtain ⟨h1, h2, h3, h4⟩ := ha
  obtain ⟨e, e3, e4⟩ := nx_row a0 a1 a0.length (by omega) h3 rfl h4 (x := (p : Int)) ⟨by omega, by omega⟩
  refine ⟨by rw [e]; exact e3, fun j hj => ⟨?_, e4 j hj⟩⟩
  rw [e]
  rfl
section
variable (a0 b0 : List Bool) (a1 b1 : List (List Int)) (both : Bool)
/-- The state of a pair: is it marked, what comes next. -/
def accF (p q : Nat) : Bool := rdOf false a0 p && !rdOf false b0 q || both && rdOf false b0 q && !rdOf false a0 p
def rowF (p q : Nat) : List Int := [nxD a1 p 0 * b0.length + nxD b1 q 0, nxD a1 p 1 * b0.length + nxD b1 q 1, nxD a1 p 2 * b0.length + nxD b1 q 2]
variable (ha : 1 ≤ a0.length ∧ a0.length ≤ 40 ∧ a1.length = a0.length ∧ ∀ r ∈ a1, r.length = 3 ∧ ∀ q ∈ r, 0 ≤ q ∧ q < (a0.length : Int)) (hb : 1 ≤ b0.length ∧ b0.length ≤ 40 ∧ b1.length = b0.length ∧ ∀ r ∈ b1, r.length = 3 ∧ ∀ q ∈ r, 0 ≤ q ∧ q < (b0.length : Int))
include ha hb
theorem pr_l2 (p q : Nat) (hp : p < a0.length) (hq : q < b0.length) (A : List Bool) (M : List (List Int)) (hA : A.length ≤ 2000) (hM : M.length ≤ 2000) (res : List Bool × List (List Int))
    (hk : Ev (fun k => spec_l7Pairs.l1 k both (b0.length : Int) p ((q + 1 : Nat) : Int) a0 a1 b0 b1 (A ++ [accF a0 b0 both p q]) (M ++ [rowF b0 a1 b1 p q])) res) :
    ∀ (d j : Nat), j + d = 3 → Ev (fun k => spec_l7Pairs.l2 k both (b0.length : Int) p q ((rowF b0 a1 b1 p q).take j) j a0 a1 b0 b1 A M) res := by
  intro d
  obtain ⟨ra, rb⟩ := row_of ha hp
  obtain ⟨sa, sb⟩ := row_of hb hq
  have hb40 := hb.2.1
  have ha3 := ha.2.2.1
  have hb3 := hb.2.2.1
  induction d with
  | zero =>
    intro j hj
    obtain rfl : j = 3 := by omega
    refine next ?_
    have et : (rowF b0 a1 b1 p q).take 3 = rowF b0 a1 b1 p q := rfl
    have hu : Ev (fun k => spec_l7Pairs.l1 k both (b0.length : Int) p (wrap64 ((q : Int) + 1)) a0 a1 b0 b1 (A ++ [accF a0 b0 both p q]) (M ++ [rowF b0 a1 b1 p q])) res := by rw [up1 (by omega)]; exact hk
    unfold accF at hu
    simp only [spec_l7Pairs.l2, et, if_neg (show ¬ ((3 : Nat) : Int) < 3 by omega), if_pos (show (0 : Int) ≤ (p : Int) by omega), if_pos (show (p : Int) < (a0.length : Int) by omega), if_pos (show (0 : Int) ≤ (q : Int) by omega), if_pos (show (q : Int) < (b0.length : Int) by omega), if_pos (show A.length < 140737488355328 by omega), if_pos (show M.length < 5864062014805 by omega)]
    cases hx : rdOf false a0 (p : Int) <;> cases hy : rdOf false b0 (q : Int) <;> cases both <;> simpa [hx, hy] using hu
  | succ d ih =>
    intro j hj
    have ij := ih (j + 1) (by omega)
    obtain ⟨r1, r2, r3⟩ := rb j (by omega)
    obtain ⟨s1, s2, s3⟩ := sb j (by omega)
    have hm : nxD a1 p j * b0.length ≤ 40 * 40 := Int.mul_le_mul (by have := ha.2.1; omega) (by omega) (by omega) (by omega)
    have hm0 : 0 ≤ nxD a1 p j * b0.length := Int.mul_nonneg r2 (by omega)
    have hl : ((rowF b0 a1 b1 p q).take j).length ≤ 3 := by rw [List.length_take]; show min j 3 ≤ 3; omega
    have hstep : (rowF b0 a1 b1 p q).take j ++ [nxD a1 p j * b0.length + nxD b1 q j] = (rowF b0 a1 b1 p q).take (j + 1) := by
      rcases (by omega : j = 0 ∨ j = 1 ∨ j = 2) with rfl | rfl | rfl <;> rfl
    refine next ?_
    simp only [spec_l7Pairs.l2, if_pos (show (j : Int) < 3 by omega), if_pos (show (0 : Int) ≤ (p : Int) by omega), if_pos (show (p : Int) < (a1.length : Int) by omega), if_pos (show (0 : Int) ≤ (j : Int) by omega), if_pos (show (j : Int) < ((rd_L2 a1 (p : Int)).length : Int) by omega), if_pos (show (0 : Int) ≤ (q : Int) by omega), if_pos (show (q : Int) < (b1.length : Int) by omega), if_pos (show (j : Int) < ((rd_L2 b1 (q : Int)).length : Int) by omega), if_pos (show ((rowF b0 a1 b1 p q).take j).length < 17592186044416 by omega), r1, s1, w64 (show -9223372036854775808 ≤ nxD a1 p j * (b0.length : Int) by omega) (by omega), w64 (show -9223372036854775808 ≤ nxD a1 p j * (b0.length : Int) + nxD b1 q j by omega) (by omega), hstep, up1 (show j < 9223372036854775807 by omega)]
    exact ij
theorem pr_l1 (p : Nat) (hp : p < a0.length) (res : List Bool × List (List Int)) (hk : Ev (fun k => spec_l7Pairs.l0 k both (b0.length : Int) ((p + 1 : Nat) : Int) a0 a1 b0 b1 (prs b0.length ((p + 1) * b0.length) (accF a0 b0 both)) (prs b0.length ((p + 1) * b0.length) (rowF b0 a1 b1))) res) :
    ∀ (d q : Nat), q + d = b0.length → Ev (fun k => spec_l7Pairs.l1 k both (b0.length : Int) p q a0 a1 b0 b1 (prs b0.length (p * b0.length + q) (accF a0 b0 both)) (prs b0.length (p * b0.length + q) (rowF b0 a1 b1))) res := by
  intro d
  have hb40 := hb.2.1
  have ha40 := ha.2.1
  induction d with
  | zero =>
    intro q hq
    obtain rfl : q = b0.length := by omega
    refine next ?_
    simp only [spec_l7Pairs.l1, if_neg (show ¬ (b0.length : Int) < (b0.length : Int) by omega), up1 (show p < 9223372036854775807 by omega)]
    rw [Nat.succ_mul] at hk
    exact hk
  | succ d ih =>
    intro q hq
    have iq := ih (q + 1) (by omega)
    have hlt : p * b0.length + q ≤ 2000 := by
      have : p * b0.length ≤ 40 * 40 := Nat.mul_le_mul (by omega) (by omega)
      omega
    refine next ?_
    simp only [spec_l7Pairs.l1, if_pos (show (q : Int) < (b0.length : Int) by omega)]
    rw [← Nat.add_assoc, prs_snoc (by omega), prs_snoc (by omega)] at iq
    exact pr_l2 a0 b0 a1 b1 both ha hb p q hp (by omega) _ _ (by rw [prs_len]; exact hlt) (by rw [prs_len]; exact hlt) res iq 3 0 (by omega)
theorem pr_l0 : ∀ (d p : Nat), p + d = a0.length → Ev (fun k => spec_l7Pairs.l0 k both (b0.length : Int) p a0 a1 b0 b1 (prs b0.length (p * b0.length) (accF a0 b0 both)) (prs b0.length (p * b0.length) (rowF b0 a1 b1))) (prs b0.length (a0.length * b0.length) (accF a0 b0 both), prs b0.length (a0.length * b0.length) (rowF b0 a1 b1)) := by
  intro d
  have ha40 := ha.2.1
  induction d with
  | zero =>
    intro p hp
    obtain rfl : p = a0.length := by omega
    refine next ?_
    simp only [spec_l7Pairs.l0, if_neg (show ¬ (a0.length : Int) < (a0.length : Int) by omega)]
    exact Ev.now _
  | succ d ih =>
    intro p hp
    refine next ?_
    simp only [spec_l7Pairs.l0, if_pos (show (p : Int) < (a0.length : Int) by omega)]
    exact pr_l1 a0 b0 a1 b1 both ha hb p (by omega) _ (ih (p + 1) (by omega)) b0.length 0 (by omega)
theorem spec_pairs : Ev (fun k => spec_l7Pairs.f k a0 a1 b0 b1 both) (prs b0.length (a0.length * b0.length) (accF a0 b0 both), prs b0.length (a0.length * b0.length) (rowF b0 a1 b1)) := by
  simp only [spec_l7Pairs.f]
  have := pr_l0 a0 b0 a1 b1 both ha hb a0.length 0 (by omega)
  simp only [Nat.zero_mul] at this
  exact this
theorem pairs_first (good : Bool → Bool → Bool) (hg : ∀ p q, (p && !q || both && q && !p) = good p q) :
    Ev (fun k => spec_l7First.f k (prs b0.length (a0.length * b0.length) (accF a0 b0 both)) (prs b0.length (a0.length * b0.length) (rowF b0 a1 b1)) (prs b0.length (a0.length * b0.length) (accF a0 b0 both))) (bfs (gdP good a0 b0) (nxP a1 b1) 1602 ([((0 : Int), (0 : Int))], [(⟨#[]⟩ : ByteArray)]) 0) := by
  have hn : a0.length * b0.length ≤ 1600 := Nat.mul_le_mul ha.2.1 hb.2.1
  have h1 : 1 ≤ a0.length * b0.length := Nat.mul_le_mul ha.1 hb.1
  generalize hN : a0.length * b0.length = n at hn h1 ⊢
  have hlt : ∀ p q : Nat, p < a0.length → q < b0.length → p * b0.length + q < n := fun p q hp hq => by
    have : (p + 1) * b0.length ≤ a0.length * b0.length := Nat.mul_le_mul_right _ hp
    rw [Nat.succ_mul] at this
    omega
  have hrow : ∀ r ∈ prs b0.length n (rowF b0 a1 b1), r.length = 3 ∧ ∀ q ∈ r, 0 ≤ q ∧ q < (n : Int) := by
    intro r hr
    obtain ⟨i, hi, rfl⟩ := List.mem_map.mp hr
    have hin := List.mem_range.mp hi
    have hip : i / b0.length < a0.length := by rw [Nat.div_lt_iff_lt_mul (by omega)]; omega
    have hiq : i % b0.length < b0.length := Nat.mod_lt _ (by omega)
    refine ⟨rfl, fun q hq => ?_⟩
    have hgen : ∀ j, j < 3 → 0 ≤ nxD a1 (i / b0.length : Nat) j * b0.length + nxD b1 (i % b0.length : Nat) j ∧ nxD a1 (i / b0.length : Nat) j * b0.length + nxD b1 (i % b0.length : Nat) j < (n : Int) := fun j hj => by
      obtain ⟨_, u1, u2⟩ := (row_of ha hip).2 j hj
      obtain ⟨_, v1, v2⟩ := (row_of hb hiq).2 j hj
      obtain ⟨x, hx⟩ := Int.eq_ofNat_of_zero_le u1
      obtain ⟨y, hy⟩ := Int.eq_ofNat_of_zero_le v1
      have := hlt x y (by omega) (by omega)
      rw [hx, hy]
      have e : ((x : Int) * (b0.length : Int) + (y : Int)) = ((x * b0.length + y : Nat) : Int) := by simp
      rw [e]
      omega
    simp only [rowF, List.mem_cons, List.not_mem_nil, or_false] at hq
    rcases hq with rfl | rfl | rfl
    · exact hgen 0 (by omega)
    · exact hgen 1 (by omega)
    · exact hgen 2 (by omega)
  have hdom : ∀ (x : Pr) (j : Nat), ((0 ≤ x.1 ∧ x.1 < (a0.length : Int)) ∧ 0 ≤ x.2 ∧ x.2 < (b0.length : Int)) → j < 3 → ((0 ≤ (nxP a1 b1 x j).1 ∧ (nxP a1 b1 x j).1 < (a0.length : Int)) ∧ 0 ≤ (nxP a1 b1 x j).2 ∧ (nxP a1 b1 x j).2 < (b0.length : Int)) := fun x j hx hj => by
    obtain ⟨p, hp⟩ := Int.eq_ofNat_of_zero_le hx.1.1
    obtain ⟨q, hq⟩ := Int.eq_ofNat_of_zero_le hx.2.1
    have hx2 := hx.1.2
    have hx4 := hx.2.2
    unfold nxP
    rw [hp, hq]
    obtain ⟨_, u1, u2⟩ := (row_of ha (p := p) (by omega)).2 j hj
    obtain ⟨_, v1, v2⟩ := (row_of hb (p := q) (by omega)).2 j hj
    exact ⟨⟨u1, u2⟩, v1, v2⟩
  have hget : ∀ p q : Nat, p < a0.length → q < b0.length → rdOf false (prs b0.length n (accF a0 b0 both)) ((p : Int) * (b0.length : Int) + (q : Int)) = accF a0 b0 both p q := fun p q hp hq => by
    have e : ((p : Int) * (b0.length : Int) + (q : Int)) = ((p * b0.length + q : Nat) : Int) := by simp
    rw [e, rdOf_get _ _ _ (by rw [prs_len]; exact hlt p q hp hq), prs_get hq (hlt p q hp hq)]
  have hnx : ∀ p q j : Nat, p < a0.length → q < b0.length → j < 3 → nxD (prs b0.length n (rowF b0 a1 b1)) ((p : Int) * (b0.length : Int) + (q : Int)) j = nxD a1 p j * b0.length + nxD b1 q j := fun p q j hp hq hj => by
    have e : ((p : Int) * (b0.length : Int) + (q : Int)) = ((p * b0.length + q : Nat) : Int) := by simp
    have hl : p * b0.length + q < (prs b0.length n (rowF b0 a1 b1)).length := by rw [prs_len]; exact hlt p q hp hq
    rw [e]
    unfold nxD
    rw [Int.toNat_natCast, List.getD_eq_getElem?_getD, List.getElem?_eq_getElem hl, Option.getD_some, prs_get hq (hlt p q hp hq)]
    match j, hj with
    | 0, _ => rfl
    | 1, _ => rfl
    | 2, _ => rfl
  have hb1' := hb.1
  have ha1' := ha.1
  have E := spec_first (prs b0.length n (accF a0 b0 both)) (prs b0.length n (accF a0 b0 both)) (prs b0.length n (rowF b0 a1 b1)) n (by omega) (by rw [prs_len]) (by rw [prs_len]) hrow h1
  refine ev_eq E ?_
  have M := bfs_map (dom := fun x : Pr => (0 ≤ x.1 ∧ x.1 < (a0.length : Int)) ∧ 0 ≤ x.2 ∧ x.2 < (b0.length : Int)) (e := fun x : Pr => x.1 * (b0.length : Int) + x.2) (good := gdP good a0 b0) (good' := fun x => rdOf false (prs b0.length n (accF a0 b0 both)) x) (nx := nxP a1 b1) (nx' := nxD (prs b0.length n (rowF b0 a1 b1)))
    (fun x y hx hy he => by
      obtain ⟨x1, x2⟩ := x
      obtain ⟨y1, y2⟩ := y
      obtain ⟨⟨hx1, hx2⟩, hx3, hx4⟩ := hx
      obtain ⟨⟨hy1, hy2⟩, hy3, hy4⟩ := hy
      dsimp only at *
      have d1 : (x1 * (b0.length : Int) + x2) / (b0.length : Int) = x1 := by rw [Int.mul_comm, Int.mul_add_ediv_left _ _ (by omega), Int.ediv_eq_zero_of_lt hx3 hx4, Int.add_zero]
      have d2 : (y1 * (b0.length : Int) + y2) / (b0.length : Int) = y1 := by rw [Int.mul_comm, Int.mul_add_ediv_left _ _ (by omega), Int.ediv_eq_zero_of_lt hy3 hy4, Int.add_zero]
      rw [he, d2] at d1
      subst d1
      have : x2 = y2 := by omega
      subst this
      rfl) hdom
    (fun x hx => by
      obtain ⟨p, hp⟩ := Int.eq_ofNat_of_zero_le hx.1.1
      obtain ⟨q, hq⟩ := Int.eq_ofNat_of_zero_le hx.2.1
      have h2 := hx.1.2
      have h4 := hx.2.2
      show rdOf false _ (x.1 * _ + x.2) = good _ _
      rw [hp, hq, hget p q (by omega) (by omega), ← hg]
      rfl)
    (fun x j hx hj => by
      obtain ⟨p, hp⟩ := Int.eq_ofNat_of_zero_le hx.1.1
      obtain ⟨q, hq⟩ := Int.eq_ofNat_of_zero_le hx.2.1
      have h2 := hx.1.2
      have h4 := hx.2.2
      show nxD _ (x.1 * _ + x.2) j = _
      rw [hp, hq, hnx p q j (by omega) (by omega) hj]
      unfold nxP
      rw [hp, hq])
    (n + 2) ([((0 : Int), (0 : Int))], [(⟨#[]⟩ : ByteArray)]) 0 (fun x hx => by
      rw [List.mem_singleton] at hx
      subst hx
      exact ⟨⟨by show (0 : Int) ≤ 0; omega, by show (0 : Int) < _; omega⟩, by show (0 : Int) ≤ 0; omega, by show (0 : Int) < _; omega⟩)
  simp only [List.map_singleton, Int.zero_mul, Int.add_zero] at M
  rw [M]
  exact bfs_more (dom := fun x : Pr => (0 ≤ x.1 ∧ x.1 < (a0.length : Int)) ∧ 0 ≤ x.2 ∧ x.2 < (b0.length : Int)) (N := n) hdom (n + 2) 1602 _ 0 (fit0 ⟨⟨by show (0 : Int) ≤ 0; omega, by show (0 : Int) < _; omega⟩, by show (0 : Int) ≤ 0; omega, by show (0 : Int) < _; omega⟩ (fun s hs ha' => by rw [← hN]; exact card_pairs a0.length b0.length s hs ha')) (by simp) (by omega) (by omega)
end
end Go.Proofs.Ytoknogcefajfiaa.Pl
