/- Texts of the proof of FnExactStarDfa, put together. No condition. -/
import Derived.Test.YtogamkblkoobkaaQFnExactStarDfa8
import Derived.Test.YtogamkblkoobkaaQFnExactStarDfa9
import Derived.Test.YtogamkblkoobkaaQFnExactStarDfa10
import Derived.Test.YtogamkblkoobkaaQFnExactStarDfa2
section
namespace Go.Proofs.Ytogamkblkoobkaa.Can
open Go.RowKit Go.Proofs.Ytogamkblkoobkaa Go.Proofs.Ytogamkblkoobkaa.P Go.Proofs.Ytogamkblkoobkaa.Wk Go.Proofs.Ytogamkblkoobkaa.Lg Go.Proofs.Ytogamkblkoobkaa.Pl Go.Proofs.Ytogamkblkoobkaa.Mp Go.Proofs.Ytogamkblkoobkaa.Bf Go.Proofs.Ytogamkblkoobkaa.Mn Go.Proofs.YtogamkblkoobkaaW.PrintWords Go.Proofs.YtogamkblkoobkaaW.PrintLast Go.Proofs.YtogamkblkoobkaaW.PrintMore
set_option linter.unusedVariables false
set_option linter.unusedSimpArgs false
def enS (x : Wk.Pr) : Ss := ⟨0, sl x.2, x.1 == 1⟩
def DmS (a : List Bool) (x : Wk.Pr) : Prop := (x.1 = 0 ∨ x.1 = 1) ∧ Low a.length x.2
section
variable {a : List Bool} {n : List (List Int)}
theorem enS_inj (ha : a.length ≤ 40) {x y : Wk.Pr} (hx : DmS a x) (hy : DmS a y) (h : enS x = enS y) : x = y := by
  obtain ⟨x1, x2⟩ := x
  obtain ⟨y1, y2⟩ := y
  unfold enS at h
  have h1 := congrArg S78.f1 h
  have h2 := congrArg S78.f2 h
  simp only at h1 h2
  have e2 : x2 = y2 := sl_inj ha hx.2 hy.2 h1
  have e1 : x1 = y1 := by
    have hx1 : x1 = 0 ∨ x1 = 1 := hx.1
    have hy1 : y1 = 0 ∨ y1 = 1 := hy.1
    rcases hx1 with rfl | rfl <;> rcases hy1 with rfl | rfl
    · rfl
    · cases h2
    · cases h2
    · rfl
  rw [e1, e2]
theorem st_step (hf : Fits a n) (ha : a.length ≤ 40) (h1 : 1 ≤ a.length) (x : Wk.Pr) (j : Nat) (hj : j < 3) : DmS a (nxSt a n x j) := by
  have hm := low_mv (s := x.2) hf ha j hj
  refine ⟨Or.inl rfl, ?_⟩
  show Low a.length (stSet a n x.2 j)
  unfold stSet
  split
  · exact low_or hm h1
  · exact hm
abbrev stTail (q : Option (Ex Wk.Pr)) : List Bool × List (List Int) × Bool := match q with | some q => fitD q.2.1 q.2.2 | none => ([], [], false)
theorem st_j2 (hf : Fits a n) (ha : a.length ≤ 40) (h1 : 1 ≤ a.length) {L : List Wk.Pr} (hL : ∀ x ∈ L, DmS a x) (hn : L.length ≤ 1000) {y : Wk.Pr} (hy : DmS a y) {i : Int} {row : List Int} {j : Nat} (hj : j < 3) (hr : row.length ≤ 3) {A : List Bool} {M : List (List Int)} {v : List Bool × List (List Int) × Bool}
    (h : Ev (fun k => spec_StarDfa.l1 k ((Lg.add L y).map enS) i (row ++ [num (Lg.add L y) y]) ((j + 1 : Nat) : Int) a n A M) v) : Ev (fun k => spec_StarDfa.j2 k (L.map enS) i row (j : Int) a n A M (enS y).f0 (enS y).f1 (enS y).f2) v := by
  have hinj : ∀ x ∈ L, enS x = enS y → x = y := fun x hx e => enS_inj ha (hL x hx) hy e
  have hlen : ∀ x ∈ L, (enS x).f1.length ≤ 40 := fun x _ => sl_len _
  have hf1 := find6_ev enS L y hinj hlen (by omega)
  refine next ?_
  simp only [spec_StarDfa.j2]
  refine Ev.bind hf1 ?_
  by_cases hm : y ∈ L
  · rw [add_in hm] at h
    rw [find6_in hm] at hf1 ⊢
    have hnn : ¬ num L y < 0 := by rw [num_eq hm]; omega
    simp only [if_neg hnn]
    refine Ev.bind hf1 ?_
    simp only [if_pos (show row.length < 17592186044416 by omega)]
    rw [up1 (by omega)]
    exact h
  · rw [add_out hm] at h
    have e1 : find6 L y = -1 := by unfold find6; rw [if_neg hm]
    rw [e1]
    have hm2 : y ∈ L ++ [y] := by simp
    have hmap : L.map enS ++ [(⟨(enS y).f0, (enS y).f1, (enS y).f2⟩ : Ss)] = (L ++ [y]).map enS := by
      rw [List.map_append, List.map_singleton]
    have hf2 := find6_ev enS (L ++ [y]) y (fun x hx e => by
      rcases List.mem_append.mp hx with hx | hx
      · exact hinj x hx e
      · exact List.mem_singleton.mp hx) (fun x _ => sl_len _) (by simp; omega)
    rw [find6_in hm2] at hf2
    simp only [if_pos (show (-1 : Int) < 0 by omega), if_pos (show (L.map enS).length < 3518437208883 by rw [List.length_map]; omega), Option.bind_some, hmap]
    refine Ev.bind hf2 ?_
    simp only [if_pos (show row.length < 17592186044416 by omega)]
    rw [up1 (by omega)]
    exact h
theorem st_l1 (hf : Fits a n) (ha : a.length ≤ 40) (h1 : 1 ≤ a.length) {x : Wk.Pr} {i : Nat} {A : List Bool} {M : List (List Int)} {v : List Bool × List (List Int) × Bool} : ∀ (d j : Nat) (L : List Wk.Pr) (row : List Int), j + d = 3 → row.length = j → (∀ x ∈ L, DmS a x) → L.length + d ≤ 1000 → L[i]? = some x →
    Ev (fun k => spec_StarDfa.l1 k ((adds L (tl (nxSt a n) x d j)).map enS) (i : Int) (row ++ (tl (nxSt a n) x d j).map (num (adds L (tl (nxSt a n) x d j)))) ((3 : Nat) : Int) a n A M) v → Ev (fun k => spec_StarDfa.l1 k (L.map enS) (i : Int) row (j : Int) a n A M) v
  | 0, j, L, row, hj, hr, hL, hn, hx, h => by
    have : j = 3 := by omega
    subst this
    have e : row ++ (tl (nxSt a n) x 0 3).map (num (adds L (tl (nxSt a n) x 0 3))) = row := by simp [tl]
    rw [e] at h
    exact h
  | d + 1, j, L, row, hj, hr, hL, hn, hx, h => by
    obtain ⟨hi, hxi⟩ := List.getElem?_eq_some_iff.mp hx
    have hdx := hL x (hxi ▸ List.getElem_mem hi)
    have hds := st_step hf ha h1 x j (by omega)
    have key : Ev (fun k => spec_StarDfa.j2 k (L.map enS) (i : Int) row (j : Int) a n A M (enS (nxSt a n x j)).f0 (enS (nxSt a n x j)).f1 (enS (nxSt a n x j)).f2) v := by
      refine st_j2 hf ha h1 hL (by omega) hds (by omega) (by omega) ?_
      refine st_l1 (x := x) hf ha h1 d (j + 1) (Lg.add L (nxSt a n x j)) _ (by omega) (by simp [hr]) (fun z hz => ?_) ?_ ?_ ?_
      · rcases mem_add.mp hz with hz | rfl
        · exact hL z hz
        · exact hds
      · have : (Lg.add L (nxSt a n x j)).length ≤ L.length + 1 := by
          by_cases hm : nxSt a n x j ∈ L
          · rw [add_in hm]; omega
          · rw [add_out hm]; simp
        omega
      · by_cases hm : nxSt a n x j ∈ L
        · rw [add_in hm]; exact hx
        · rw [add_out hm, List.getElem?_append_left hi]; exact hx
      · rw [tl, adds_cons, List.map_cons] at h
        have hmem : nxSt a n x j ∈ Lg.add L (nxSt a n x j) := mem_add.mpr (Or.inr rfl)
        have e : num (Lg.add L (nxSt a n x j)) (nxSt a n x j) = num (adds (Lg.add L (nxSt a n x j)) (tl (nxSt a n) x d (j + 1))) (nxSt a n x j) := (num_pre hmem (adds_pre _ _)).symm
        rw [e, List.append_assoc, List.singleton_append]
        exact h
    refine next ?_
    simp only [spec_StarDfa.l1, if_pos (show (j : Int) < 3 by omega), if_pos (show (0 : Int) ≤ (i : Int) by omega), if_pos (show (i : Int) < ((L.map enS).length : Int) by rw [List.length_map]; omega), rd_map enS L i hi, hxi]
    refine Ev.bind (move_ev hf ha hdx.2 j (by omega)) ?_
    refine Ev.bind (any_ev ha (low_mv (s := x.2) hf ha j (by omega))) ?_
    have hval : (enS (nxSt a n x j)).f0 = 0 ∧ (enS (nxSt a n x j)).f1 = sl (stSet a n x.2 j) ∧ (enS (nxSt a n x j)).f2 = false := ⟨rfl, rfl, rfl⟩
    rw [hval.1, hval.2.1, hval.2.2] at key
    unfold stSet at key
    cases hac : acS a (mvS n x.2 (j : Int)) with
    | true =>
      rw [hac] at key
      simp only [if_true] at key ⊢
      refine Ev.bind (put_ev _ 0 (by have := sl_len (mvS n x.2 (j : Int)); omega)) ?_
      rw [sl_or ha h1 (low_mv (s := x.2) hf ha j (by omega))]
      exact key
    | false =>
      rw [hac] at key
      simp only [Bool.false_eq_true, if_false] at key ⊢
      exact key
set_option maxHeartbeats 2000000 in
theorem st_l0 (hf : Fits a n) (ha : a.length ≤ 40) (h1 : 1 ≤ a.length) : ∀ (d : Nat) (p : Ex Wk.Pr) (i : Nat), 402 ≤ d + i → p.1.length ≤ 400 → i ≤ p.1.length → (∀ x ∈ p.1, DmS a x) → p.2.1.length = i → p.2.2.length = i →
    (∀ q, expl (acSt a) (nxSt a n) 400 d p i = some q → Ev (fun k => spec_l5Fits.f k q.2.1 q.2.2) (fitD q.2.1 q.2.2)) → Ev (fun k => spec_StarDfa.l0 k (p.1.map enS) (i : Int) a n p.2.1 p.2.2) (stTail (expl (acSt a) (nxSt a n) 400 d p i))
  | 0, p, i, hd, hp, hi, _, _, _, _ => by omega
  | d + 1, p, i, hd, hp, hi, hdm, hA, hM, hfit => by
    refine next ?_
    rw [expl] at hfit ⊢
    by_cases hlt : i < p.1.length
    · rw [dif_pos hlt] at hfit ⊢
      simp only [spec_StarDfa.l0, if_pos (show (i : Int) < ((p.1.map enS).length : Int) by rw [List.length_map]; omega)]
      have hdx := hdm _ (List.getElem_mem hlt)
      refine st_l1 (x := p.1[i]) hf ha h1 3 0 p.1 [] (by omega) rfl hdm (by omega) (List.getElem?_eq_getElem hlt) ?_
      have hpre := adds_pre (tl (nxSt a n) p.1[i] 3 0) p.1
      have hlen := hpre.length_le
      have hadd : (adds p.1 (tl (nxSt a n) p.1[i] 3 0)).length ≤ p.1.length + 3 := by
        simp only [tl, adds_cons]
        have h3 : ∀ (L : List Wk.Pr) (y : Wk.Pr), (Lg.add L y).length ≤ L.length + 1 := fun L y => by
          by_cases hm : y ∈ L
          · rw [add_in hm]; omega
          · rw [add_out hm]; simp
        have a1 := h3 p.1 (nxSt a n p.1[i] 0)
        have a2 := h3 (Lg.add p.1 (nxSt a n p.1[i] 0)) (nxSt a n p.1[i] (0 + 1))
        have a3 := h3 (Lg.add (Lg.add p.1 (nxSt a n p.1[i] 0)) (nxSt a n p.1[i] (0 + 1))) (nxSt a n p.1[i] (0 + 1 + 1))
        show (Lg.add (Lg.add (Lg.add p.1 (nxSt a n p.1[i] 0)) (nxSt a n p.1[i] (0 + 1))) (nxSt a n p.1[i] (0 + 1 + 1))).length ≤ _
        omega
      refine next ?_
      simp only [spec_StarDfa.l1, if_neg (show ¬ ((3 : Nat) : Int) < 3 by omega), List.length_map, List.nil_append]
      cases he : exRow (nxSt a n) 400 p.1[i] 3 0 p.1 [] with
      | none =>
        have h2 := exRow_none 3 0 p.1 [] he
        simp only [if_pos (show ((adds p.1 (tl (nxSt a n) p.1[i] 3 0)).length : Int) > 400 by omega), Option.bind_none, stTail]
        exact Ev.now _
      | some q =>
        obtain ⟨L', row'⟩ := q
        obtain ⟨h2, h3, h4⟩ := exRow_some 3 0 p.1 [] L' row' he
        rw [he] at hfit
        simp only [Option.bind_some] at hfit ⊢
        rw [← h2]
        rw [← h2] at hlen hpre
        have h5 := h4 hp
        have h6 : row' = (tl (nxSt a n) p.1[i] 3 0).map (num L') := h3
        have hiL : i < L'.length := by omega
        have hLi : L'[i] = p.1[i] := (hpre.getElem hlt).symm
        have IH := st_l0 hf ha h1 d (L', p.2.1 ++ [acSt a p.1[i]], p.2.2 ++ [row']) (i + 1) (by omega) h5 (by show i + 1 ≤ L'.length; omega) (fun x hx => by
          have hx : x ∈ L' := hx
          rw [h2] at hx
          rcases mem_adds.mp hx with hx | hx
          · exact hdm x hx
          · simp only [tl, List.mem_cons, List.not_mem_nil, or_false] at hx
            rcases hx with rfl | rfl | rfl
            · exact st_step hf ha h1 _ _ (by omega)
            · exact st_step hf ha h1 _ _ (by omega)
            · exact st_step hf ha h1 _ _ (by omega)) (by simp [hA]) (by simp [hM]) hfit
        simp only [if_neg (show ¬ (L'.length : Int) > 400 by omega), if_pos (show (0 : Int) ≤ (i : Int) by omega), if_pos (show (i : Int) < (L'.length : Int) by omega), rd_map enS L' i hiL, hLi, if_pos (show p.2.1.length < 140737488355328 by omega), if_pos (show p.2.2.length < 5864062014805 by omega)]
        rw [up1 (by omega), ← h6]
        have hv : (enS p.1[i]).f2 = (p.1[i].1 == 1) := rfl
        have hv1 : (enS p.1[i]).f1 = sl p.1[i].2 := rfl
        cases hb : (p.1[i].1 == 1) with
        | true =>
          have ea : acSt a p.1[i] = true := by unfold acSt; rw [hb]; rfl
          rw [ea] at IH ⊢
          simp only [hv, hb, if_true]
          exact IH
        | false =>
          have ea : acSt a p.1[i] = acS a p.1[i].2 := by unfold acSt; rw [hb]; rfl
          rw [ea] at IH ⊢
          simp only [hv, hb, hv1, Bool.false_eq_true, if_false]
          refine Ev.bind (any_ev ha hdx.2) ?_
          exact IH
    · rw [dif_neg hlt] at hfit ⊢
      simp only [spec_StarDfa.l0, if_neg (show ¬ (i : Int) < ((p.1.map enS).length : Int) by rw [List.length_map]; omega)]
      refine Ev.bind (hfit p rfl) ?_
      dsimp only [stTail]
      generalize fitD p.2.1 p.2.2 = fr
      obtain ⟨f1, f2, f3⟩ := fr
      exact Ev.now _
theorem spec_st (a : List Bool) (n : List (List Int)) (h1 : a.length ≤ 1048576) (h2 : n.length ≤ 1048576) : Ev (fun k => spec_StarDfa.f k a n) (stR a n) := by
  simp only [spec_StarDfa.f]
  refine Ev.bind (spec_valid a n h1 h2) ?_
  unfold stR
  cases hv : validD a n with
  | false =>
    simp only [Bool.false_eq_true, if_false]
    exact Ev.now _
  | true =>
    simp only [if_true]
    obtain ⟨n1, n2, n3, n4⟩ := validD_facts hv
    have h := st_l0 (a := a) (n := n) (fits_valid hv) n2 n1 402 ([((1 : Int), (1 : Int))], [], []) 0 (by omega) (by simp) (by simp) (fun x hx => by
      rw [List.mem_singleton] at hx
      subst hx
      exact ⟨Or.inr rfl, low_one n1⟩) rfl rfl (fun q hq => by
      have hau := expl_auto (most := 400) (by omega) hq
      obtain ⟨g1, g2⟩ := hau.1.rows
      exact spec_fit g1 (by have := hau.2; omega) g2)
    have e : ([((1 : Int), (1 : Int))] : List Wk.Pr).map enS = [(⟨0, [0], true⟩ : Ss)] := by
      show [(⟨0, sl 1, (1 : Int) == 1⟩ : Ss)] = _
      rw [sl_one]
      rfl
    rw [e] at h
    exact h
theorem stR_len (a : List Bool) (n : List (List Int)) : (stR a n).1.length ≤ 40 ∧ (stR a n).2.1.length ≤ 40 ∧ ∀ r ∈ (stR a n).2.1, r.length = 3 := by
  unfold stR
  by_cases h : validD a n = true
  · rw [if_pos h]
    cases hx : stX a n with
    | none => simp
    | some q =>
      unfold stX at hx
      have hau := expl_auto (most := 400) (by omega) hx
      have hl := fitD_len hau.1.rows.1 hau.1.rows.2
      dsimp only
      exact hl
  · rw [if_neg h]
    simp
end
end Go.Proofs.Ytogamkblkoobkaa.Can
end
section
namespace Go.Proofs.Ytogamkblkoobkaa.P
open Go.RowKit Go.Proofs.YtogamkblkoobkaaW.PrintWords Go.Proofs.YtogamkblkoobkaaW.PrintLast Go.Proofs.YtogamkblkoobkaaW.PrintMore
attribute [local go_sem] max2_int min2_int max_two min_two max_three min_three max_four min_four
set_option linter.unusedVariables false
set_option linter.unusedSimpArgs false
def impl_StarDfa.f (l0_0 : List Bool) (l0_1 : List (List Int)) : Option (List Bool × List (List Int) × Bool) := some (Wk.stR l0_0 l0_1)
theorem impl_StarDfa.calls (A0_0 : Option Addr) (c0_0 : Nat) (l0_0 : List Bool) (A0_1 : Option Addr) (c0_1 : Nat) (l0_1 : List (List Int)) (r1 : List Bool) (r2 : List (List Int)) (r3 : Bool) (w : World) (hr0_0 : Kd.C Kd.bool w A0_0 l0_0.length l0_0) (hc0_0 : l0_0.length ≤ c0_0) (hr0_1 : Kd.C (Kd.slice 3 (Kd.int .i64)) w A0_1 l0_1.length l0_1) (hc0_1 : l0_1.length ≤ c0_1) (h : impl_StarDfa.f l0_0 l0_1 = some (r1, r2, r3)) :
    Calls Try.prog 26 #[.agg #[.slice A0_0 l0_0.length c0_0, .slice A0_1 l0_1.length c0_1]] w fun e w' => ∃ v0_ v1_ : Value, e = .returned (.tuple #[.agg #[v0_, v1_], .bool r3]) ∧ Kd.R Kd.bool 4 w' w.heap.size (fun _ => True) v0_ r1 ∧ Kd.S (Kd.slice 3 (Kd.int .i64)) 67 w' w.heap.size (fun _ => True) v1_ r2 ∧ Below w.heap.size w w' := by
  have h := Option.some.inj h
  have e1 : (Wk.stR l0_0 l0_1).1 = r1 := by rw [h]
  have e2 : (Wk.stR l0_0 l0_1).2.1 = r2 := by rw [h]
  have e3 : (Wk.stR l0_0 l0_1).2.2 = r3 := by rw [h]
  rw [← e1, ← e2, ← e3]
  exact Wk.stCalls A0_0 c0_0 l0_0 A0_1 c0_1 l0_1 w hr0_0 hc0_0 hr0_1 hc0_1
end Go.Proofs.Ytogamkblkoobkaa.P
end
