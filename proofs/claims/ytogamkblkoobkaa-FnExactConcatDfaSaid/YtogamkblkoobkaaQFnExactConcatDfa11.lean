/- Texts of the proof of FnExactConcatDfa, put together. No condition. -/
import Derived.Test.YtogamkblkoobkaaQFnExactConcatDfa8
import Derived.Test.YtogamkblkoobkaaQFnExactConcatDfa9
import Derived.Test.YtogamkblkoobkaaQFnExactConcatDfa2
import Derived.Test.YtogamkblkoobkaaQFnExactConcatDfa10
section
namespace Go.Proofs.Ytogamkblkoobkaa.Can
open Go.RowKit Go.Proofs.Ytogamkblkoobkaa Go.Proofs.Ytogamkblkoobkaa.P Go.Proofs.Ytogamkblkoobkaa.Wk Go.Proofs.Ytogamkblkoobkaa.Lg Go.Proofs.Ytogamkblkoobkaa.Pl Go.Proofs.Ytogamkblkoobkaa.Mp Go.Proofs.Ytogamkblkoobkaa.Bf Go.Proofs.Ytogamkblkoobkaa.Mn Go.Proofs.YtogamkblkoobkaaW.PrintWords Go.Proofs.YtogamkblkoobkaaW.PrintLast Go.Proofs.YtogamkblkoobkaaW.PrintMore
set_option linter.unusedVariables false
set_option linter.unusedSimpArgs false
def enC (x : Wk.Pr) : Ss := ⟨x.1, sl x.2, false⟩
def DmC (k : Nat) (b : List Bool) (x : Wk.Pr) : Prop := (0 ≤ x.1 ∧ x.1 < (k : Int)) ∧ Low b.length x.2
section
variable {a b : List Bool} {n m : List (List Int)}
theorem enC_inj {q : Nat} (hb : b.length ≤ 40) {x y : Wk.Pr} (hx : DmC q b x) (hy : DmC q b y) (h : enC x = enC y) : x = y := by
  obtain ⟨x1, x2⟩ := x
  obtain ⟨y1, y2⟩ := y
  unfold enC at h
  have h0 : x1 = y1 := congrArg S78.f0 h
  have h1 := congrArg S78.f1 h
  simp only at h1
  have e2 : x2 = y2 := sl_inj hb hx.2 hy.2 h1
  rw [h0, e2]
theorem low_bg (h1 : 1 ≤ b.length) {x : Wk.Pr} (h : Low b.length x.2) : Low b.length (bgP a x).2 := by
  show Low b.length (bgSet a x)
  unfold bgSet
  split
  · exact low_or h h1
  · exact h
theorem nx_in (hf : Fits a n) {x : Int} (hx : 0 ≤ x ∧ x < (a.length : Int)) (j : Nat) (hj : j < 3) : (rowOf n x).length = 3 ∧ 0 ≤ nxD n x j ∧ nxD n x j < (a.length : Int) := by
  obtain ⟨g1, g2⟩ := hf.row x hx
  exact ⟨g1, g2 (rd (rowOf n x) (j : Int)) (by rw [rd_get _ j (by omega)]; exact List.getElem_mem _)⟩
theorem ct_step (hf0 : Fits a n) (hf : Fits b m) (hb : b.length ≤ 40) (h1 : 1 ≤ b.length) (x : Wk.Pr) (hx : DmC a.length b x) (j : Nat) (hj : j < 3) : DmC a.length b (nxCt a n m x j) :=
  ⟨(nx_in hf0 hx.1 j hj).2, low_bg h1 (low_mv (s := x.2) hf hb j hj)⟩
abbrev ctTail (q : Option (Ex Wk.Pr)) : List Bool × List (List Int) × Bool := match q with | some q => fitD q.2.1 q.2.2 | none => ([], [], false)
theorem ct_j2 (hf0 : Fits a n) (hf : Fits b m) (hb : b.length ≤ 40) (h1 : 1 ≤ b.length) {L : List Wk.Pr} (hL : ∀ x ∈ L, DmC a.length b x) (hn : L.length ≤ 1000) {y : Wk.Pr} (hy : DmC a.length b y) {i : Int} {row : List Int} {j : Nat} (hj : j < 3) (hr : row.length ≤ 3) {A : List Bool} {M : List (List Int)} {v : List Bool × List (List Int) × Bool}
    (h : Ev (fun k => spec_ConcatDfa.l1 k ((Lg.add L y).map enC) i (row ++ [num (Lg.add L y) y]) ((j + 1 : Nat) : Int) a n b m A M) v) : Ev (fun k => spec_ConcatDfa.j4 k (L.map enC) i row (j : Int) a n b m A M (enC y).f0 (enC y).f1 (enC y).f2) v := by
  have hinj : ∀ x ∈ L, enC x = enC y → x = y := fun x hx e => enC_inj hb (hL x hx) hy e
  have hlen : ∀ x ∈ L, (enC x).f1.length ≤ 40 := fun x _ => sl_len _
  have hf1 := find6_ev enC L y hinj hlen (by omega)
  refine next ?_
  simp only [spec_ConcatDfa.j4]
  refine Ev.bind hf1 ?_
  by_cases hm : y ∈ L
  · rw [add_in hm] at h
    rw [find6_in hm] at hf1 ⊢
    have hnn : ¬ num L y < 0 := by rw [num_eq hm]; omega
    simp only [if_neg hnn]
    refine Ev.bind hf1 ?_
    simp only [if_pos (show row.length < 17592186044416 by omega)]
    rw [up1 (by omega)]
    exact h
  · rw [add_out hm] at h
    have e1 : find6 L y = -1 := by unfold find6; rw [if_neg hm]
    rw [e1]
    have hm2 : y ∈ L ++ [y] := by simp
    have hmap : L.map enC ++ [(⟨(enC y).f0, (enC y).f1, (enC y).f2⟩ : Ss)] = (L ++ [y]).map enC := by
      rw [List.map_append, List.map_singleton]
    have hf2 := find6_ev enC (L ++ [y]) y (fun x hx e => by
      rcases List.mem_append.mp hx with hx | hx
      · exact hinj x hx e
      · exact List.mem_singleton.mp hx) (fun x _ => sl_len _) (by simp; omega)
    rw [find6_in hm2] at hf2
    simp only [if_pos (show (-1 : Int) < 0 by omega), if_pos (show (L.map enC).length < 3518437208883 by rw [List.length_map]; omega), Option.bind_some, hmap]
    refine Ev.bind hf2 ?_
    simp only [if_pos (show row.length < 17592186044416 by omega)]
    rw [up1 (by omega)]
    exact h
theorem ct_l1 (hf0 : Fits a n) (hf : Fits b m) (hb : b.length ≤ 40) (h1 : 1 ≤ b.length) {x : Wk.Pr} {i : Nat} {A : List Bool} {M : List (List Int)} {v : List Bool × List (List Int) × Bool} : ∀ (d j : Nat) (L : List Wk.Pr) (row : List Int), j + d = 3 → row.length = j → (∀ x ∈ L, DmC a.length b x) → L.length + d ≤ 1000 → L[i]? = some x →
    Ev (fun k => spec_ConcatDfa.l1 k ((adds L (tl (nxCt a n m) x d j)).map enC) (i : Int) (row ++ (tl (nxCt a n m) x d j).map (num (adds L (tl (nxCt a n m) x d j)))) ((3 : Nat) : Int) a n b m A M) v → Ev (fun k => spec_ConcatDfa.l1 k (L.map enC) (i : Int) row (j : Int) a n b m A M) v
  | 0, j, L, row, hj, hr, hL, hn, hx, h => by
    have : j = 3 := by omega
    subst this
    have e : row ++ (tl (nxCt a n m) x 0 3).map (num (adds L (tl (nxCt a n m) x 0 3))) = row := by simp [tl]
    rw [e] at h
    exact h
  | d + 1, j, L, row, hj, hr, hL, hn, hx, h => by
    obtain ⟨hi, hxi⟩ := List.getElem?_eq_some_iff.mp hx
    have hdx := hL x (hxi ▸ List.getElem_mem hi)
    have hds := ct_step hf0 hf hb h1 x hdx j (by omega)
    have key : Ev (fun k => spec_ConcatDfa.j4 k (L.map enC) (i : Int) row (j : Int) a n b m A M (enC (nxCt a n m x j)).f0 (enC (nxCt a n m x j)).f1 (enC (nxCt a n m x j)).f2) v := by
      refine ct_j2 hf0 hf hb h1 hL (by omega) hds (by omega) (by omega) ?_
      refine ct_l1 (x := x) hf0 hf hb h1 d (j + 1) (Lg.add L (nxCt a n m x j)) _ (by omega) (by simp [hr]) (fun z hz => ?_) ?_ ?_ ?_
      · rcases mem_add.mp hz with hz | rfl
        · exact hL z hz
        · exact hds
      · have : (Lg.add L (nxCt a n m x j)).length ≤ L.length + 1 := by
          by_cases hm : nxCt a n m x j ∈ L
          · rw [add_in hm]; omega
          · rw [add_out hm]; simp
        omega
      · by_cases hm : nxCt a n m x j ∈ L
        · rw [add_in hm]; exact hx
        · rw [add_out hm, List.getElem?_append_left hi]; exact hx
      · rw [tl, adds_cons, List.map_cons] at h
        have hmem : nxCt a n m x j ∈ Lg.add L (nxCt a n m x j) := mem_add.mpr (Or.inr rfl)
        have e : num (Lg.add L (nxCt a n m x j)) (nxCt a n m x j) = num (adds (Lg.add L (nxCt a n m x j)) (tl (nxCt a n m) x d (j + 1))) (nxCt a n m x j) := (num_pre hmem (adds_pre _ _)).symm
        rw [e, List.append_assoc, List.singleton_append]
        exact h
    obtain ⟨c1, c2, c3⟩ := nx_in hf0 hdx.1 j (by omega)
    have hln := hf0.len
    have hrow : rd_L1 n x.1 = rowOf n x.1 := rfl
    have hnx : rd (rowOf n x.1) (j : Int) = nxD n x.1 j := rfl
    have hs0 : (enC x).f0 = x.1 := rfl
    have hd1 := hdx.1
    refine next ?_
    simp only [spec_ConcatDfa.l1, if_pos (show (j : Int) < 3 by omega), if_pos (show (0 : Int) ≤ (i : Int) by omega), if_pos (show (i : Int) < ((L.map enC).length : Int) by rw [List.length_map]; omega), rd_map enC L i hi, hxi, hrow, hs0, if_pos hd1.1, if_pos (show x.1 < (n.length : Int) by omega), if_pos (show (0 : Int) ≤ (j : Int) by omega), if_pos (show (j : Int) < ((rowOf n x.1).length : Int) by omega), hnx, if_pos c2, if_pos c3]
    refine Ev.bind (move_ev hf hb hdx.2 j (by omega)) ?_
    have hval : (enC (nxCt a n m x j)).f0 = nxD n x.1 j ∧ (enC (nxCt a n m x j)).f1 = sl (bgSet a (nxD n x.1 j, mvS m x.2 (j : Int))) ∧ (enC (nxCt a n m x j)).f2 = false := ⟨rfl, rfl, rfl⟩
    rw [hval.1, hval.2.1, hval.2.2] at key
    unfold bgSet at key
    cases hac : rdOf false a (nxD n x.1 j) with
    | true =>
      rw [hac] at key
      simp only [if_true] at key ⊢
      refine Ev.bind (put_ev _ 0 (by have := sl_len (mvS m x.2 (j : Int)); omega)) ?_
      rw [sl_or hb h1 (low_mv (s := x.2) hf hb j (by omega))]
      exact key
    | false =>
      rw [hac] at key
      simp only [Bool.false_eq_true, if_false] at key ⊢
      exact key
set_option maxHeartbeats 2000000 in
theorem ct_l0 (hf0 : Fits a n) (hf : Fits b m) (hb : b.length ≤ 40) (h1 : 1 ≤ b.length) : ∀ (d : Nat) (p : Ex Wk.Pr) (i : Nat), 402 ≤ d + i → p.1.length ≤ 400 → i ≤ p.1.length → (∀ x ∈ p.1, DmC a.length b x) → p.2.1.length = i → p.2.2.length = i →
    (∀ q, expl (acCt b) (nxCt a n m) 400 d p i = some q → Ev (fun k => spec_l5Fits.f k q.2.1 q.2.2) (fitD q.2.1 q.2.2)) → Ev (fun k => spec_ConcatDfa.l0 k (p.1.map enC) (i : Int) a n b m p.2.1 p.2.2) (ctTail (expl (acCt b) (nxCt a n m) 400 d p i))
  | 0, p, i, hd, hp, hi, _, _, _, _ => by omega
  | d + 1, p, i, hd, hp, hi, hdm, hA, hM, hfit => by
    refine next ?_
    rw [expl] at hfit ⊢
    by_cases hlt : i < p.1.length
    · rw [dif_pos hlt] at hfit ⊢
      simp only [spec_ConcatDfa.l0, if_pos (show (i : Int) < ((p.1.map enC).length : Int) by rw [List.length_map]; omega)]
      have hdx := hdm _ (List.getElem_mem hlt)
      refine ct_l1 (x := p.1[i]) hf0 hf hb h1 3 0 p.1 [] (by omega) rfl hdm (by omega) (List.getElem?_eq_getElem hlt) ?_
      have hpre := adds_pre (tl (nxCt a n m) p.1[i] 3 0) p.1
      have hlen := hpre.length_le
      have hadd : (adds p.1 (tl (nxCt a n m) p.1[i] 3 0)).length ≤ p.1.length + 3 := by
        simp only [tl, adds_cons]
        have h3 : ∀ (L : List Wk.Pr) (y : Wk.Pr), (Lg.add L y).length ≤ L.length + 1 := fun L y => by
          by_cases hm : y ∈ L
          · rw [add_in hm]; omega
          · rw [add_out hm]; simp
        have a1 := h3 p.1 (nxCt a n m p.1[i] 0)
        have a2 := h3 (Lg.add p.1 (nxCt a n m p.1[i] 0)) (nxCt a n m p.1[i] (0 + 1))
        have a3 := h3 (Lg.add (Lg.add p.1 (nxCt a n m p.1[i] 0)) (nxCt a n m p.1[i] (0 + 1))) (nxCt a n m p.1[i] (0 + 1 + 1))
        show (Lg.add (Lg.add (Lg.add p.1 (nxCt a n m p.1[i] 0)) (nxCt a n m p.1[i] (0 + 1))) (nxCt a n m p.1[i] (0 + 1 + 1))).length ≤ _
        omega
      refine next ?_
      simp only [spec_ConcatDfa.l1, if_neg (show ¬ ((3 : Nat) : Int) < 3 by omega), List.length_map, List.nil_append]
      cases he : exRow (nxCt a n m) 400 p.1[i] 3 0 p.1 [] with
      | none =>
        have h2 := exRow_none 3 0 p.1 [] he
        simp only [if_pos (show ((adds p.1 (tl (nxCt a n m) p.1[i] 3 0)).length : Int) > 400 by omega), Option.bind_none, ctTail]
        exact Ev.now _
      | some q =>
        obtain ⟨L', row'⟩ := q
        obtain ⟨h2, h3, h4⟩ := exRow_some 3 0 p.1 [] L' row' he
        rw [he] at hfit
        simp only [Option.bind_some] at hfit ⊢
        rw [← h2]
        rw [← h2] at hlen hpre
        have h5 := h4 hp
        have h6 : row' = (tl (nxCt a n m) p.1[i] 3 0).map (num L') := h3
        have hiL : i < L'.length := by omega
        have hLi : L'[i] = p.1[i] := (hpre.getElem hlt).symm
        have IH := ct_l0 hf0 hf hb h1 d (L', p.2.1 ++ [acCt b p.1[i]], p.2.2 ++ [row']) (i + 1) (by omega) h5 (by show i + 1 ≤ L'.length; omega) (fun x hx => by
          have hx : x ∈ L' := hx
          rw [h2] at hx
          rcases mem_adds.mp hx with hx | hx
          · exact hdm x hx
          · simp only [tl, List.mem_cons, List.not_mem_nil, or_false] at hx
            rcases hx with rfl | rfl | rfl
            · exact ct_step hf0 hf hb h1 _ hdx _ (by omega)
            · exact ct_step hf0 hf hb h1 _ hdx _ (by omega)
            · exact ct_step hf0 hf hb h1 _ hdx _ (by omega)) (by simp [hA]) (by simp [hM]) hfit
        simp only [if_neg (show ¬ (L'.length : Int) > 400 by omega), if_pos (show (0 : Int) ≤ (i : Int) by omega), if_pos (show (i : Int) < (L'.length : Int) by omega), rd_map enC L' i hiL, hLi, if_pos (show p.2.1.length < 140737488355328 by omega), if_pos (show p.2.2.length < 5864062014805 by omega)]
        rw [up1 (by omega), ← h6]
        refine Ev.bind (any_ev hb hdx.2) ?_
        exact IH
    · rw [dif_neg hlt] at hfit ⊢
      simp only [spec_ConcatDfa.l0, if_neg (show ¬ (i : Int) < ((p.1.map enC).length : Int) by rw [List.length_map]; omega)]
      refine Ev.bind (hfit p rfl) ?_
      dsimp only [ctTail]
      generalize fitD p.2.1 p.2.2 = fr
      obtain ⟨f1, f2, f3⟩ := fr
      exact Ev.now _
theorem spec_ct (a : List Bool) (n : List (List Int)) (b : List Bool) (m : List (List Int)) (h1 : a.length ≤ 1048576) (h2 : n.length ≤ 1048576) (h3 : b.length ≤ 1048576) (h4 : m.length ≤ 1048576) : Ev (fun k => spec_ConcatDfa.f k a n b m) (ctR a n b m) := by
  have hbad : ∀ {u : Bool}, u = true → Ev (fun k => spec_ConcatDfa.j0 k u a n b m) ([], [], false) := fun hu => by
    subst hu
    refine next ?_
    simp only [spec_ConcatDfa.j0, if_true]
    exact Ev.now _
  simp only [spec_ConcatDfa.f]
  refine Ev.bind (spec_valid a n h1 h2) ?_
  unfold ctR
  cases hv : validD a n with
  | false =>
    simp only [Bool.false_eq_true, if_false, false_and]
    exact hbad rfl
  | true =>
    simp only [if_true, true_and]
    refine Ev.bind (spec_valid b m h3 h4) ?_
    cases hv2 : validD b m with
    | false =>
      simp only [Bool.false_eq_true, if_false]
      exact hbad rfl
    | true =>
      simp only [if_true]
      obtain ⟨n1, n2, n3, n4⟩ := validD_facts hv
      obtain ⟨k1, k2, k3, k4⟩ := validD_facts hv2
      have h := ct_l0 (a := a) (n := n) (b := b) (m := m) (fits_valid hv) (fits_valid hv2) k2 k1 402 ([bgP a ((0 : Int), (0 : Int))], [], []) 0 (by omega) (by simp) (by simp) (fun x hx => by
        have hx : x ∈ [bgP a ((0 : Int), (0 : Int))] := hx
        rw [List.mem_singleton] at hx
        subst hx
        exact ⟨⟨by show (0 : Int) ≤ 0; omega, by show (0 : Int) < _; omega⟩, low_bg k1 low_zero⟩) rfl rfl (fun q hq => by
        have hau := expl_auto (most := 400) (by omega) hq
        obtain ⟨g1, g2⟩ := hau.1.rows
        exact spec_fit g1 (by have := hau.2; omega) g2)
      have h : Ev (fun k => spec_ConcatDfa.l0 k [(⟨0, sl (bgSet a ((0 : Int), (0 : Int))), false⟩ : Ss)] 0 a n b m [] []) (ctTail (ctX a n b m)) := h
      refine next ?_
      simp only [spec_ConcatDfa.j0, Bool.not_true, Bool.false_eq_true, if_false, if_pos (show (0 : Int) < (a.length : Int) by omega)]
      unfold bgSet at h
      cases hac : rdOf false a 0 with
      | true =>
        rw [if_pos hac, show Go.bits .or .u64 (0 : Int) 1 = 1 from by decide, sl_one] at h
        simp only [if_true]
        refine next ?_
        simp only [spec_ConcatDfa.j1]
        exact h
      | false =>
        rw [if_neg (show ¬ rdOf false a ((0 : Int), (0 : Int)).1 = true from by show ¬ rdOf false a 0 = true; rw [hac]; decide), sl_zero] at h
        simp only [Bool.false_eq_true, if_false]
        refine next ?_
        simp only [spec_ConcatDfa.j1]
        exact h
theorem ctR_len (a : List Bool) (n : List (List Int)) (b : List Bool) (m : List (List Int)) : (ctR a n b m).1.length ≤ 40 ∧ (ctR a n b m).2.1.length ≤ 40 ∧ ∀ r ∈ (ctR a n b m).2.1, r.length = 3 := by
  unfold ctR
  by_cases h : validD a n = true ∧ validD b m = true
  · rw [if_pos h]
    cases hx : ctX a n b m with
    | none => simp
    | some q =>
      unfold ctX at hx
      have hau := expl_auto (most := 400) (by omega) hx
      have hl := fitD_len hau.1.rows.1 hau.1.rows.2
      dsimp only
      exact hl
  · rw [if_neg h]
    simp
end
end Go.Proofs.Ytogamkblkoobkaa.Can
end
section
namespace Go.Proofs.Ytogamkblkoobkaa.P
open Go.RowKit Go.Proofs.YtogamkblkoobkaaW.PrintWords Go.Proofs.YtogamkblkoobkaaW.PrintLast Go.Proofs.YtogamkblkoobkaaW.PrintMore
attribute [local go_sem] max2_int min2_int max_two min_two max_three min_three max_four min_four
set_option linter.unusedVariables false
set_option linter.unusedSimpArgs false
def impl_ConcatDfa.f (l0_0 : List Bool) (l0_1 : List (List Int)) (l1_0 : List Bool) (l1_1 : List (List Int)) : Option (List Bool × List (List Int) × Bool) := some (Wk.ctR l0_0 l0_1 l1_0 l1_1)
theorem impl_ConcatDfa.calls (A0_0 : Option Addr) (c0_0 : Nat) (l0_0 : List Bool) (A0_1 : Option Addr) (c0_1 : Nat) (l0_1 : List (List Int)) (A1_0 : Option Addr) (c1_0 : Nat) (l1_0 : List Bool) (A1_1 : Option Addr) (c1_1 : Nat) (l1_1 : List (List Int)) (r1 : List Bool) (r2 : List (List Int)) (r3 : Bool) (w : World) (hr0_0 : Kd.C Kd.bool w A0_0 l0_0.length l0_0) (hc0_0 : l0_0.length ≤ c0_0) (hr0_1 : Kd.C (Kd.slice 3 (Kd.int .i64)) w A0_1 l0_1.length l0_1) (hc0_1 : l0_1.length ≤ c0_1) (hr1_0 : Kd.C Kd.bool w A1_0 l1_0.length l1_0) (hc1_0 : l1_0.length ≤ c1_0) (hr1_1 : Kd.C (Kd.slice 3 (Kd.int .i64)) w A1_1 l1_1.length l1_1) (hc1_1 : l1_1.length ≤ c1_1) (h : impl_ConcatDfa.f l0_0 l0_1 l1_0 l1_1 = some (r1, r2, r3)) :
    Calls Try.prog 24 #[.agg #[.slice A0_0 l0_0.length c0_0, .slice A0_1 l0_1.length c0_1], .agg #[.slice A1_0 l1_0.length c1_0, .slice A1_1 l1_1.length c1_1]] w fun e w' => ∃ v0_ v1_ : Value, e = .returned (.tuple #[.agg #[v0_, v1_], .bool r3]) ∧ Kd.R Kd.bool 4 w' w.heap.size (fun _ => True) v0_ r1 ∧ Kd.S (Kd.slice 3 (Kd.int .i64)) 67 w' w.heap.size (fun _ => True) v1_ r2 ∧ Below w.heap.size w w' := by
  have h := Option.some.inj h
  have e1 : (Wk.ctR l0_0 l0_1 l1_0 l1_1).1 = r1 := by rw [h]
  have e2 : (Wk.ctR l0_0 l0_1 l1_0 l1_1).2.1 = r2 := by rw [h]
  have e3 : (Wk.ctR l0_0 l0_1 l1_0 l1_1).2.2 = r3 := by rw [h]
  rw [← e1, ← e2, ← e3]
  exact Wk.ctCalls A0_0 c0_0 l0_0 A0_1 c0_1 l0_1 A1_0 c1_0 l1_0 A1_1 c1_1 l1_1 w hr0_0 hc0_0 hr0_1 hc0_1 hr1_0 hc1_0 hr1_1 hc1_1
end Go.Proofs.Ytogamkblkoobkaa.P
end
