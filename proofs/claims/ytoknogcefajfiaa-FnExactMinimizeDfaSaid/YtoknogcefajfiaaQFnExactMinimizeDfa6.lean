/- Texts of the proof of FnExactMinimizeDfa, put together. No condition. -/
import Derived.Test.YtoknogcefajfiaaQFnExactMinimizeDfa4
import Derived.Test.YtoknogcefajfiaaQFnExactMinimizeDfa2
import Derived.Test.YtoknogcefajfiaaQFnExactMinimizeDfa5
import Derived.Deep.Slices
import Derived.Lib.SmallJoins
import Derived.Test.YtoknogcefajfiaaQFnExactMinimizeDfa3
section
namespace Go.Proofs.Ytoknogcefajfiaa.Can
open Go.RowKit Go.Proofs.Ytoknogcefajfiaa Go.Proofs.Ytoknogcefajfiaa.P Go.Proofs.Ytoknogcefajfiaa.Lg Go.Proofs.Ytoknogcefajfiaa.Pl Go.Proofs.Ytoknogcefajfiaa.Mp Go.Proofs.Ytoknogcefajfiaa.Bf Go.Proofs.Ytoknogcefajfiaa.Mn Go.Proofs.YtoknogcefajfiaaW.PrintWords Go.Proofs.YtoknogcefajfiaaW.PrintLast Go.Proofs.YtoknogcefajfiaaW.PrintMore
set_option linter.unusedVariables false
set_option linter.unusedSimpArgs false
set_option linter.unusedSectionVars false
section
variable {acc : List Bool} {nx : List (List Int)} {cl : List Int} {r : Nat}
structure Inv (acc : List Bool) (nx : List (List Int)) (r : Nat) (cl : List Int) : Prop where
  len : cl.length = acc.length
  iff : ∀ p ∈ states acc.length, ∀ q ∈ states acc.length, (rd cl p = rd cl q ↔ sig acc nx r p = sig acc nx r q)
def Rep (acc : List Bool) (nx : List (List Int)) (r : Nat) (cl : List Int) : Prop := ∀ q ∈ states acc.length, rd cl q ∈ states acc.length ∧ sig acc nx r (rd cl q) = sig acc nx r q
theorem rd_at {l : List Int} {q : Int} (h0 : 0 ≤ q) (h1 : q < (l.length : Int)) : rd l q = l[q.toNat]'(by omega) := by
  have := rd_get l q.toNat (by omega)
  rwa [Int.toNat_of_nonneg h0] at this
theorem inv0 : Inv acc nx 0 (cl0 acc) := by
  have hlen : (cl0 acc).length = acc.length := by simp [cl0]
  have hat : ∀ p ∈ states acc.length, rd (cl0 acc) p = if rdOf false acc p = true then 1 else 0 := fun p hp => by
    have := mem_states.mp hp
    rw [rd_at this.1 (by omega)]
    have h2 := rdOf_get false acc p.toNat (by omega)
    rw [Int.toNat_of_nonneg this.1] at h2
    rw [h2]
    simp [cl0]
  refine ⟨hlen, fun p hp q hq => ?_⟩
  rw [hat p hp, hat q hq, sig_zero]
  cases h1 : rdOf false acc p <;> cases h2 : rdOf false acc q <;> simp
theorem succ_state (hf : Fits acc nx) {p : Int} (hp : p ∈ states acc.length) (k : Fin 3) : rd (rowOf nx p) (k.val : Int) ∈ states acc.length := by
  have h := hf.row p (mem_states.mp hp)
  exact mem_states.mpr (h.2 _ (rd_mem h.1 k))
theorem same_sig (hf : Fits acc nx) (h : Inv acc nx r cl) {p q : Int} (hp : p ∈ states acc.length) (hq : q ∈ states acc.length) : sameB nx cl p q = true ↔ sig acc nx (r + 1) p = sig acc nx (r + 1) q := by
  rw [sameB_iff, sig_succ]
  constructor
  · rintro ⟨h0, hk⟩
    have hs := (h.iff p hp q hq).mp h0
    exact ⟨congrFun hs [], fun k => (h.iff _ (succ_state hf hp k) _ (succ_state hf hq k)).mp (hk k)⟩
  · intro hh
    exact ⟨(h.iff p hp q hq).mpr (sig_down (sig_succ.mpr hh)), fun k => (h.iff _ (succ_state hf hp k) _ (succ_state hf hq k)).mpr (hh.2 k)⟩
theorem least_sig (hf : Fits acc nx) (h : Inv acc nx r cl) {q : Nat} (hq : q < acc.length) : 0 ≤ leastF nx cl q ∧ leastF nx cl q ≤ q ∧ sig acc nx (r + 1) (leastF nx cl q) = sig acc nx (r + 1) q ∧ ∀ p : Nat, (p : Int) < leastF nx cl q → sig acc nx (r + 1) p ≠ sig acc nx (r + 1) q := by
  have hqs : (q : Int) ∈ states acc.length := mem_states.mpr (by omega)
  unfold leastF
  cases hfd : (List.range q).find? (fun p : Nat => sameB nx cl (p : Int) (q : Int)) with
  | none =>
    rw [List.find?_eq_none] at hfd
    refine ⟨by simp, by simp, rfl, fun p hp he => ?_⟩
    have hpq : p < q := by simpa using hp
    exact hfd p (List.mem_range.mpr hpq) ((same_sig hf h (mem_states.mpr (by omega)) hqs).mpr he)
  | some m =>
    obtain ⟨hs, i, hi, hm, hno⟩ := List.find?_eq_some_iff_getElem.mp hfd
    have him : i = m := by simpa using hm
    subst him
    have hiq : i < q := by simpa using hi
    refine ⟨by simp, by simp; omega, (same_sig hf h (mem_states.mpr (by simp; omega)) hqs).mp hs, fun p hp he => ?_⟩
    have hpi : p < i := by simpa using hp
    have := hno p hpi
    rw [List.getElem_range, (same_sig hf h (mem_states.mpr (by omega)) hqs).mpr he] at this
    exact absurd this (by decide)
theorem rd_refS (h : Inv acc nx r cl) {q : Int} (hq : q ∈ states acc.length) : rd (refS nx cl) q = leastF nx cl q.toNat := by
  have := mem_states.mp hq
  have hl : (refS nx cl).length = acc.length := by rw [refS_len, h.len]
  rw [rd_at this.1 (by omega)]
  simp [refS]
theorem inv_succ (hf : Fits acc nx) (h : Inv acc nx r cl) : Inv acc nx (r + 1) (refS nx cl) := by
  refine ⟨by rw [refS_len, h.len], fun p hp q hq => ?_⟩
  rw [rd_refS h hp, rd_refS h hq]
  have bp := mem_states.mp hp
  have bq := mem_states.mp hq
  obtain ⟨p0, p1, p2, p3⟩ := least_sig hf h (q := p.toNat) (by omega)
  obtain ⟨q0, q1, q2, q3⟩ := least_sig hf h (q := q.toNat) (by omega)
  rw [Int.toNat_of_nonneg bp.1] at p2 p3
  rw [Int.toNat_of_nonneg bq.1] at q2 q3
  constructor
  · intro he
    rw [← p2, ← q2, he]
  · intro he
    refine Int.le_antisymm ?_ ?_
    · refine Int.not_lt.mp fun hlt => ?_
      refine p3 (leastF nx cl q.toNat).toNat (by rw [Int.toNat_of_nonneg q0]; exact hlt) ?_
      rw [Int.toNat_of_nonneg q0, q2, he]
    · refine Int.not_lt.mp fun hlt => ?_
      refine q3 (leastF nx cl p.toNat).toNat (by rw [Int.toNat_of_nonneg p0]; exact hlt) ?_
      rw [Int.toNat_of_nonneg p0, p2, he]
theorem rep_succ (hf : Fits acc nx) (h : Inv acc nx r cl) : Rep acc nx (r + 1) (refS nx cl) := by
  intro q hq
  have bq := mem_states.mp hq
  obtain ⟨q0, q1, q2, q3⟩ := least_sig hf h (q := q.toNat) (by omega)
  rw [Int.toNat_of_nonneg bq.1] at q2
  rw [rd_refS h hq]
  exact ⟨mem_states.mpr (by omega), q2⟩
theorem iter_inv (hf : Fits acc nx) : ∀ (d r : Nat) (cl : List Int), Inv acc nx r cl → Rep acc nx r cl → Inv acc nx (r + d) (iterS nx d cl) ∧ Rep acc nx (r + d) (iterS nx d cl)
  | 0, r, cl, h, h2 => ⟨h, h2⟩
  | d + 1, r, cl, h, h2 => by
    have := iter_inv hf d (r + 1) (refS nx cl) (inv_succ hf h) (rep_succ hf h)
    rw [show r + 1 + d = r + (d + 1) by omega] at this
    exact this
structure Cls (acc : List Bool) (nx : List (List Int)) (cl : List Int) : Prop where
  len : cl.length = acc.length
  iff : ∀ p ∈ states acc.length, ∀ q ∈ states acc.length, (rd cl p = rd cl q ↔ lang acc nx p = lang acc nx q)
  rep : ∀ q ∈ states acc.length, rd cl q ∈ states acc.length ∧ lang acc nx (rd cl q) = lang acc nx q
theorem cls_good (hf : Fits acc nx) : Cls acc nx (iterS nx (acc.length + 1) (cl0 acc)) := by
  obtain ⟨h1, h2⟩ := iter_inv hf acc.length 1 (refS nx (cl0 acc)) (inv_succ hf inv0) (rep_succ hf inv0)
  have e : iterS nx (acc.length + 1) (cl0 acc) = iterS nx acc.length (refS nx (cl0 acc)) := rfl
  rw [e]
  refine ⟨h1.len, fun p hp q hq => ?_, fun q hq => ?_⟩
  · rw [h1.iff p hp q hq, sig_all hf (by omega) (mem_states.mp hp) (mem_states.mp hq)]
  · obtain ⟨a, b⟩ := h2 q hq
    exact ⟨a, (sig_all hf (by omega) (mem_states.mp a) (mem_states.mp hq)).mp b⟩
def succC (nx : List (List Int)) (cl : List Int) (p : Int) : List Int := (rowOf nx p).map (rd cl)
def rowR (nx : List (List Int)) (cl : List Int) (R : List Int) (p : Int) : List Int := (succC nx cl p).map fun y => (R.idxOf y : Int)
theorem inner_ev (hf : Fits acc nx) (hcl : cl.length = acc.length) (L R : List Int) (i : Nat) (hi : i < L.length) (hp : L[i] ∈ states acc.length) (hpre : adds L (succC nx cl L[i]) <+: R) (hR : R.length ≤ 1000000) (A : List Bool) (B : List (List Int)) (hA : A.length ≤ 1000000) (hB : B.length ≤ 1000000) {out : List Bool × List (List Int)}
    (h : Ev (fun k => spec_l5Minimal.l0 k cl (adds L (succC nx cl L[i])) ((i + 1 : Nat) : Int) acc nx (A ++ [rdOf false acc L[i]]) (B ++ [rowR nx cl R L[i]])) out) :
    ∀ (d j : Nat), j + d = 3 → Ev (fun k => spec_l5Minimal.l1 k cl (adds L ((succC nx cl L[i]).take j)) (i : Int) (((succC nx cl L[i]).take j).map fun y => (R.idxOf y : Int)) (j : Int) acc nx A B) out := by
  generalize hpe : L[i] = p at hp hpre h ⊢
  have hps := mem_states.mp hp
  have hl := hf.len
  have hr : (rd_L2 nx p).length = 3 ∧ ∀ x ∈ rd_L2 nx p, 0 ≤ x ∧ x < (acc.length : Int) := hf.row p hps
  have hsl : (succC nx cl p).length = 3 := by unfold succC; rw [List.length_map]; exact hr.1
  have hpj : ∀ j, adds L ((succC nx cl p).take j) <+: adds L (succC nx cl p) := fun j => by
    conv => rhs; rw [← List.take_append_drop j (succC nx cl p), adds_append]
    exact adds_pre _ _
  have hrdp : ∀ j, rd (adds L ((succC nx cl p).take j)) (i : Int) = p ∧ i < (adds L ((succC nx cl p).take j)).length := fun j => by
    have h1 := adds_pre ((succC nx cl p).take j) L
    have h2 := h1.length_le
    rw [rd_get _ i (by omega)]
    exact ⟨(h1.getElem hi).symm.trans hpe, by omega⟩
  have hRl : ∀ j, (adds L ((succC nx cl p).take j)).length ≤ 1000000 := fun j => Nat.le_trans ((hpj j).trans hpre).length_le hR
  intro d
  induction d with
  | zero =>
    intro j hj
    obtain rfl : j = 3 := by omega
    obtain ⟨e1, e2⟩ := hrdp 3
    refine next ?_
    simp only [spec_l5Minimal.l1, if_neg (show ¬ ((3 : Nat) : Int) < 3 by decide), if_pos (show (0 : Int) ≤ (i : Int) by omega), if_pos (show (i : Int) < ((adds L ((succC nx cl p).take 3)).length : Int) by omega), e1, if_pos hps.1, if_pos hps.2, if_pos (show A.length < 140737488355328 by omega), if_pos (show B.length < 5864062014805 by omega)]
    rw [up1 (by have := hRl 3; omega), List.take_of_length_le (by omega)]
    exact h
  | succ d ih =>
    intro j hj
    obtain ⟨e1, e2⟩ := hrdp j
    have hjr : j < (rd_L2 nx p).length := by rw [hr.1]; omega
    have hy := hr.2 _ (List.getElem_mem hjr)
    have hyr := rd_get (rd_L2 nx p) j hjr
    have hsj : (succC nx cl p)[j]'(by omega) = rd cl (rd (rd_L2 nx p) (j : Int)) := by
      rw [hyr]
      unfold succC
      rw [List.getElem_map]
      rfl
    have hrl : (((succC nx cl p).take j).map fun y => (R.idxOf y : Int)).length ≤ 3 := by rw [List.length_map, List.length_take]; omega
    have IH := ih (j + 1) (by omega)
    have hpj1 := (hpj (j + 1)).trans hpre
    rw [List.take_succ_eq_append_getElem (by omega), hsj, adds_append, List.map_append, List.map_singleton] at IH
    rw [List.take_succ_eq_append_getElem (by omega), hsj, adds_append] at hpj1
    rw [← hyr] at hy
    have hLl := hRl j
    refine next ?_
    simp only [spec_l5Minimal.l1, if_pos (show (j : Int) < 3 by omega), if_pos (show (0 : Int) ≤ (i : Int) by omega), if_pos (show (i : Int) < ((adds L ((succC nx cl p).take j)).length : Int) by omega), e1, if_pos hps.1, if_pos (show p < (nx.length : Int) by omega), if_pos (show (0 : Int) ≤ (j : Int) by omega), if_pos (show (j : Int) < ((rd_L2 nx p).length : Int) by omega), if_pos hy.1, if_pos (show rd (rd_L2 nx p) (j : Int) < (cl.length : Int) by omega)]
    generalize rd cl (rd (rd_L2 nx p) (j : Int)) = y at IH hpj1 ⊢
    generalize hLe : adds L ((succC nx cl p).take j) = L' at IH hpj1 hLl ⊢
    generalize (((succC nx cl p).take j).map fun y => (R.idxOf y : Int)) = row at IH hrl ⊢
    have hadd : adds L' [y] = add L' y := rfl
    rw [hadd] at IH hpj1
    refine (find_ev L' y (by omega)).bind ?_
    by_cases hm : y ∈ L'
    · have hf1 : findOf L' y = (L'.idxOf y : Int) := by unfold findOf; rw [if_pos hm]
      have hge : ¬ findOf L' y < 0 := by rw [hf1]; omega
      simp only [if_neg hge]
      refine (find_ev L' y (by omega)).bind ?_
      simp only [if_pos (show row.length < 17592186044416 by omega)]
      rw [up1 (by omega), hf1]
      rw [add_in hm] at IH hpj1
      rw [idxOf_pre hpj1 hm] at IH
      exact IH
    · have hf1 : findOf L' y < 0 := by unfold findOf; rw [if_neg hm]; decide
      simp only [if_pos hf1, if_pos (show L'.length < 17592186044416 by omega), Option.bind_some]
      rw [add_out hm] at IH hpj1
      refine (find_ev (L' ++ [y]) y (by simp; omega)).bind ?_
      have hm2 : y ∈ L' ++ [y] := by simp
      have hf2 : findOf (L' ++ [y]) y = ((L' ++ [y]).idxOf y : Int) := by unfold findOf; rw [if_pos hm2]
      simp only [if_pos (show row.length < 17592186044416 by omega)]
      rw [up1 (by omega), hf2]
      rw [idxOf_pre hpj1 hm2] at IH
      exact IH
theorem outer_ev (hf : Fits acc nx) (hc : Cls acc nx cl) {L R : List Int} {i : Nat} (h : Runs (succC nx cl) L i R) : R.length ≤ 1000000 → (∀ x ∈ L, x ∈ states acc.length) → i ≤ L.length →
    Ev (fun k => spec_l5Minimal.l0 k cl L (i : Int) acc nx ((L.take i).map (rdOf false acc)) ((L.take i).map (rowR nx cl R))) (R.map (rdOf false acc), R.map (rowR nx cl R)) := by
  induction h with
  | @stop L i h =>
    intro hR hL hi
    refine next ?_
    simp only [spec_l5Minimal.l0, if_neg (show ¬ (i : Int) < (L.length : Int) by omega)]
    rw [List.take_of_length_le h]
    exact ev_some rfl
  | @step L R i h hr ih =>
    intro hR hL hi
    have hp := hL _ (List.getElem_mem h)
    have hL2 : ∀ x ∈ adds L (succC nx cl L[i]), x ∈ states acc.length := fun x hx => by
      rcases mem_adds.mp hx with q | q
      · exact hL x q
      · obtain ⟨z, hz, rfl⟩ := List.mem_map.mp q
        exact (hc.rep z (mem_states.mpr ((hf.row _ (mem_states.mp hp)).2 z hz))).1
    have hpre := adds_pre (succC nx cl L[i]) L
    have IH := ih hR hL2 (by have := hpre.length_le; omega)
    have et : (adds L (succC nx cl L[i])).take (i + 1) = L.take i ++ [L[i]] := by
      obtain ⟨t, ht⟩ := hpre
      rw [← ht, List.take_append_of_le_length (by omega), List.take_succ_eq_append_getElem h]
    rw [et, List.map_append, List.map_append, List.map_singleton, List.map_singleton] at IH
    have hLR := hr.pre.length_le
    have hLl := hpre.length_le
    refine next ?_
    simp only [spec_l5Minimal.l0, if_pos (show (i : Int) < (L.length : Int) by omega)]
    have := inner_ev hf hc.len L R i h hp hr.pre hR _ _ (by simp; omega) (by simp; omega) IH 3 0 (by omega)
    rw [List.take_zero, adds_nil] at this
    simpa using this
theorem spec_min (hf : Fits acc nx) (h1 : 1 ≤ acc.length) (hb : acc.length ≤ 1000000) : ∃ out, Ev (fun k => spec_l5Minimal.f k acc nx) out ∧ IsCan (lang acc nx 0) out := by
  have hc := cls_good hf
  have hev := cls_ev hf hb
  generalize iterS nx (acc.length + 1) (cl0 acc) = cl at hc hev
  have h0 : (0 : Int) ∈ states acc.length := mem_states.mpr (by omega)
  have hc0 := hc.rep 0 h0
  have hdom : ∀ x, x ∈ states acc.length → ∀ y ∈ succC nx cl x, y ∈ states acc.length := fun x hx y hy => by
    obtain ⟨z, hz, rfl⟩ := List.mem_map.mp hy
    exact (hc.rep z (mem_states.mpr ((hf.row _ (mem_states.mp hx)).2 z hz))).1
  obtain ⟨R, hR⟩ := Runs.ends (succ := succC nx cl) (dom := fun x => x ∈ states acc.length) (N := acc.length) hdom (fun s hn hs => card_n acc.length s hn (fun x hx => mem_states.mp (hs x hx))) acc.length [rd cl 0] 0 (by simp) (fun x hx => by rw [List.mem_singleton] at hx; subst hx; exact hc0.1) (by simp) (by omega)
  have hst : ∀ x ∈ R, x ∈ states acc.length := hR.all (p := fun x => x ∈ states acc.length) hdom (fun x hx => by rw [List.mem_singleton] at hx; subst hx; exact hc0.1)
  have hnd : R.Nodup := hR.nodup (by simp)
  have hRl : R.length ≤ acc.length := card_n acc.length R hnd (fun x hx => mem_states.mp (hst x hx))
  have hcls : ∀ x ∈ R, ∃ q ∈ states acc.length, x = rd cl q := by
    refine hR.all (p := fun x => ∃ q ∈ states acc.length, x = rd cl q) ?_ ?_
    · rintro x ⟨q, hq, rfl⟩ y hy
      obtain ⟨z, hz, rfl⟩ := List.mem_map.mp hy
      exact ⟨z, mem_states.mpr ((hf.row _ (mem_states.mp (hc.rep q hq).1)).2 z hz), rfl⟩
    · intro x hx
      rw [List.mem_singleton] at hx
      exact ⟨0, h0, hx⟩
  have hinj : ∀ a ∈ R, ∀ b ∈ R, lang acc nx a = lang acc nx b → a = b := by
    intro a ha b hb hab
    obtain ⟨p, hp, rfl⟩ := hcls a ha
    obtain ⟨q, hq, rfl⟩ := hcls b hb
    rw [(hc.rep p hp).2, (hc.rep q hq).2] at hab
    exact (hc.iff p hp q hq).mpr hab
  have hsm : ∀ x ∈ states acc.length, (succC nx cl x).map (lang acc nx) = lsucc (lang acc nx x) := fun x hx => by
    rw [← succ_lang hf (mem_states.mp hx)]
    unfold succC
    rw [List.map_map]
    exact List.map_congr_left fun z hz => (hc.rep z (mem_states.mpr ((hf.row _ (mem_states.mp hx)).2 z hz))).2
  have hcan := hR.map0 (dom := fun x => x ∈ states acc.length) (succ' := lsucc) (f := lang acc nx) hdom hsm hc0.1
  have hdd : dd (R.map (lang acc nx)) = R.map (lang acc nx) := by rw [dd_inj _ _ hinj, dd_id hnd]
  rw [hdd, hc0.2] at hcan
  refine ⟨(R.map (rdOf false acc), R.map (rowR nx cl R)), ?_, _, hcan, ?_⟩
  · have ho := outer_ev hf hc hR (by omega) (fun x hx => by rw [List.mem_singleton] at hx; subst hx; exact hc0.1) (by simp)
    refine hev.bind ?_
    simp only [if_pos (show (0 : Int) < (cl.length : Int) by have := hc.len; omega)]
    simpa using ho
  · unfold outL
    refine Prod.ext ?_ ?_
    · show R.map _ = _
      rw [List.map_map]
      rfl
    · show R.map (rowR nx cl R) = (R.map (lang acc nx)).map (fun X => (lsucc X).map (fun Y => ((R.map (lang acc nx)).idxOf Y : Int)))
      rw [List.map_map]
      refine List.map_congr_left fun x hx => ?_
      show rowR nx cl R x = (lsucc (lang acc nx x)).map (fun Y => ((R.map (lang acc nx)).idxOf Y : Int))
      rw [← hsm x (hst x hx), List.map_map]
      unfold rowR
      refine List.map_congr_left fun y hy => ?_
      have hyR := hR.closed (fun j _ hj => by omega) x hx y hy
      show (R.idxOf y : Int) = ((R.map (lang acc nx)).idxOf (lang acc nx y) : Int)
      rw [idxOf_inj (lang acc nx) R y (fun b hb h => hinj b hb y hyR h)]
theorem min_same (hf : Fits acc nx) (h1 : 1 ≤ acc.length) (hb : acc.length ≤ 1000000) : Ev (fun k => spec_l5Minimal.f k acc nx) (minD acc nx 0) := by
  obtain ⟨out, h, hc⟩ := spec_min hf h1 hb
  rw [hc.det (min_can hf (st := 0) (by omega))] at h
  exact h
end
end Go.Proofs.Ytoknogcefajfiaa.Can
end
section
namespace Go.Proofs.Ytoknogcefajfiaa.Rk
open Go.RowKit Go.Deep Go.ChangeShapes Go.WideShapes Go.Proofs.YtoknogcefajfiaaW.PrintWords Go.Proofs.YtoknogcefajfiaaW.PrintLast Go.Proofs.YtoknogcefajfiaaW.PrintMore
set_option linter.unusedVariables false
set_option linter.unusedSimpArgs false
variable {H : Type} {enc : TypeId × Value → H} {P : Program} {w : World} {base : Nat} {spare : Nat → Bool} {held : Bool} {α : Type}
def Opens (enc : TypeId × Value → H) (P : Program) (w : World) (base : Nat) (spare : Nat → Bool) (held : Bool) (K : Kd α) (G : α → Prop) (t : TypeId) : Prop :=
  ∀ (fuel : Nat) (cs : List Value) (x : DataW H × List MemPlace), DataW.trod enc P w base spare held fuel t cs = some x → ∃ a, K.K w a cs ∧ G a
def wfI (k : IntKind) (n : Int) : Prop := (Lit.int k n).wf = true
def rowsOf (G : α → Prop) (xs : List α) : Prop := xs.length ≤ 9223372036854775807 ∧ ∀ x ∈ xs, G x
theorem opens_int {k : IntKind} {t : TypeId} (ht : P.underlying t = some (.int k)) : Opens enc P w base spare held (Kd.int k) (wfI k) t := by
  intro fuel cs x h
  obtain ⟨n, rfl, _, h2⟩ := DataW.trod_int ht h
  exact ⟨n, rfl, h2⟩
theorem opens_bool {t : TypeId} (ht : P.underlying t = some .bool) : Opens enc P w base spare held Kd.bool (fun _ => True) t := by
  intro fuel cs x h
  obtain ⟨b, rfl, _⟩ := DataW.trod_bool ht h
  exact ⟨b, rfl, trivial⟩
theorem opens_slice [Inhabited α] {K : Kd α} {G : α → Prop} {t e : TypeId} (q : Nat) (ht : P.underlying t = some (.slice e)) (hc : P.cellsOf e = 1) (hs : K.sz = 1) (h : Opens enc P w base spare held K G e) : Opens enc P w base spare held (Kd.slice q K) (rowsOf G) t := by
  intro fuel cs x hx
  rcases open_slice1 ht hc hx with ⟨rfl, _⟩ | ⟨a, len, cap, m, n, V, D, Pl, rfl, _, hl, hm, hmm, _, hx⟩
  · exact ⟨[], ⟨none, 0, rfl, Nat.le_refl _, rfl, by simp, fun h0 => absurd h0 (Nat.lt_irrefl _)⟩, by simp, fun x hx => by cases hx⟩
  · have hle : len ≤ m := by rw [hmm]; split <;> omega
    obtain ⟨f, hf⟩ := choose_lt (n := len) (p := fun i y => K.K w y [V i] ∧ G y) (fun i hi => h _ _ _ (hx i (by omega)).2)
    have hlen : ((List.range len).map f).length = len := by simp
    have hbig : len ≤ 9223372036854775807 := by unfold maxLen at hm; omega
    refine ⟨(List.range len).map f, ⟨some a, cap, by rw [hlen], by rw [hlen]; exact hl, hlen.symm ▸ rfl, ?_, fun _ => ⟨a, rfl, fun j p hj => ?_⟩⟩, by rw [hlen]; exact hbig, fun x hx => ?_⟩
    · rw [hlen]; exact hbig
    · have hjl : j < len := by
        have := (List.getElem?_eq_some_iff.1 hj).1
        rwa [hlen] at this
      have hp : f j = p := by
        rw [List.getElem?_map, List.getElem?_range hjl] at hj
        simpa using hj
      subst hp
      refine ⟨[V j], hs.symm, (hf j hjl).1, fun i u hu => ?_⟩
      cases i with
      | zero =>
        have : V j = u := by simpa using hu
        subst this
        rw [hs, Nat.mul_one, Nat.add_zero]
        exact (hx j (by omega)).1
      | succ i => simp at hu
    · obtain ⟨i, hi, rfl⟩ := List.mem_map.mp hx
      exact (hf i (List.mem_range.mp hi)).2
theorem slice_of {K : Kd α} {q : Nat} {v : Value} {xs : List α} (h : (Kd.slice q K).K w xs [v]) : ∃ A c, v = .slice A xs.length c ∧ xs.length ≤ c ∧ K.C w A xs.length xs := by
  obtain ⟨A, c, e, h1, h2⟩ := h
  exact ⟨A, c, by simpa using e, h1, h2⟩
end Go.Proofs.Ytoknogcefajfiaa.Rk
end
section
namespace Go.Proofs.Ytoknogcefajfiaa.P
open Go.RowKit Go.Proofs.YtoknogcefajfiaaW.PrintWords Go.Proofs.YtoknogcefajfiaaW.PrintLast Go.Proofs.YtoknogcefajfiaaW.PrintMore
attribute [local go_sem] max2_int min2_int max_two min_two max_three min_three max_four min_four
set_option linter.unusedVariables false
set_option linter.unusedSimpArgs false
def laws_szBoolS.f (l0 : List Bool) (a1 : Int) : Option (Int) := if (wrap64 (a1 - (l0.length : Int))) < 0 then (some (-1)) else (some (wrap64 (a1 - (l0.length : Int))))
set_option maxHeartbeats 8000000 in
set_option maxRecDepth 100000 in
theorem laws_szBoolS.calls (A0 : Option Addr) (c0 : Nat) (l0 : List Bool) (a1 : Int) (r : Int) (w : World) (hr0 : Kd.C Kd.bool w A0 l0.length l0) (hc0 : l0.length ≤ c0) (h : laws_szBoolS.f l0 a1 = some r) :
    Calls Try.prog 50 #[.slice A0 l0.length c0, .int .i64 a1] w fun e w' => e = .returned (.int .i64 r) ∧ Drawn0 w w' := by
  have HR0 := Aside0.mk hr0
  have HC0 := Aside0.mk hc0
  clear hr0 hc0
  have H : (if (wrap64 (a1 - (l0.length : Int))) < 0 then (some (-1)) else (some (wrap64 (a1 - (l0.length : Int))))) = some r := h
  clear h
  by_cases c3 : (wrap64 (a1 - (l0.length : Int))) < 0
  · rw [if_pos c3] at H
    have c3b0 : decide ((wrap64 (a1 - (l0.length : Int))) < 0) = true := decide_eq_true c3
    clear c3
    obtain rfl := Option.some.inj H
    simp only [Option.some.injEq, Prod.mk.injEq] at H
    obtain ⟨rfl⟩ := H
    go_enter Try.func50, Try.ntmps50
    go_wp2
    go_ret
    exact ⟨by first | rfl | (simp; done) | (simp [*]; done), by repeat (first | exact Drawn0.refl _ | apply Drawn0.step)⟩
  · rw [if_neg c3] at H
    have c3b0 : decide ((wrap64 (a1 - (l0.length : Int))) < 0) = false := decide_eq_false c3
    clear c3
    obtain rfl := Option.some.inj H
    simp only [Option.some.injEq, Prod.mk.injEq] at H
    obtain ⟨rfl⟩ := H
    go_enter Try.func50, Try.ntmps50
    go_wp2
    go_ret
    exact ⟨by first | rfl | (simp; done) | (simp [*]; done), by repeat (first | exact Drawn0.refl _ | apply Drawn0.step)⟩
def laws_szIntS.f (l0 : List Int) (a1 : Int) : Option (Int) := if (wrap64 (a1 - (l0.length : Int))) < 0 then (some (-1)) else (some (wrap64 (a1 - (l0.length : Int))))
set_option maxHeartbeats 8000000 in
set_option maxRecDepth 100000 in
theorem laws_szIntS.calls (A0 : Option Addr) (c0 : Nat) (l0 : List Int) (a1 : Int) (r : Int) (w : World) (hr0 : Kd.C (Kd.int .i64) w A0 l0.length l0) (hc0 : l0.length ≤ c0) (h : laws_szIntS.f l0 a1 = some r) :
    Calls Try.prog 95 #[.slice A0 l0.length c0, .int .i64 a1] w fun e w' => e = .returned (.int .i64 r) ∧ Drawn0 w w' := by
  have HR0 := Aside0.mk hr0
  have HC0 := Aside0.mk hc0
  clear hr0 hc0
  have H : (if (wrap64 (a1 - (l0.length : Int))) < 0 then (some (-1)) else (some (wrap64 (a1 - (l0.length : Int))))) = some r := h
  clear h
  by_cases c3 : (wrap64 (a1 - (l0.length : Int))) < 0
  · rw [if_pos c3] at H
    have c3b0 : decide ((wrap64 (a1 - (l0.length : Int))) < 0) = true := decide_eq_true c3
    clear c3
    obtain rfl := Option.some.inj H
    simp only [Option.some.injEq, Prod.mk.injEq] at H
    obtain ⟨rfl⟩ := H
    go_enter Try.func95, Try.ntmps95
    go_wp2
    go_ret
    exact ⟨by first | rfl | (simp; done) | (simp [*]; done), by repeat (first | exact Drawn0.refl _ | apply Drawn0.step)⟩
  · rw [if_neg c3] at H
    have c3b0 : decide ((wrap64 (a1 - (l0.length : Int))) < 0) = false := decide_eq_false c3
    clear c3
    obtain rfl := Option.some.inj H
    simp only [Option.some.injEq, Prod.mk.injEq] at H
    obtain ⟨rfl⟩ := H
    go_enter Try.func95, Try.ntmps95
    go_wp2
    go_ret
    exact ⟨by first | rfl | (simp; done) | (simp [*]; done), by repeat (first | exact Drawn0.refl _ | apply Drawn0.step)⟩
def laws_szIntSS.l0 : Nat → List (List Int) → Int → Int → Option (Int)
  | 0, _, _, _ => none
  | k + 1, x0, x1, x5 => if x5 < (x0.length : Int) then (if 0 ≤ x5 then ((laws_szIntS.f (rd_L2 x0 x5) x1).bind fun t104 => (if t104 < 0 then (some (-1)) else (laws_szIntSS.l0 k x0 t104 (wrap64 (x5 + 1))))) else (none)) else (some x1)
def laws_szIntSS.f (k : Nat) (l0 : List (List Int)) (a1 : Int) : Option (Int) := if (wrap64 (a1 - (l0.length : Int))) < 0 then (some (-1)) else (laws_szIntSS.l0 k l0 (wrap64 (a1 - (l0.length : Int))) 0)
theorem laws_szIntSS.mono_l : ∀ k, (∀ y0 y1 y2, LeO (laws_szIntSS.l0 k y0 y1 y2) (laws_szIntSS.l0 (k + 1) y0 y1 y2))
  | 0 => fun _ _ _ r h => by simp [laws_szIntSS.l0] at h
  | k + 1 => by
    have ih0 := laws_szIntSS.mono_l k
    · intro y0 y1 y2
      unfold laws_szIntSS.l0
      repeat' first
      | (with_reducible exact ih0 _ _ _)
      | (with_reducible exact LeO.refl _)
      | (with_reducible exact LeO.none _)
      | (with_reducible refine LeO.ite ?_ ?_)
      | (with_reducible refine LeO.bind ?_ (fun _ => ?_))
      | exact ih0 _ _ _
      | exact LeO.none _
      | refine LeO.ite ?_ ?_
      | refine LeO.bind ?_ (fun _ => ?_)
theorem laws_szIntSS.mono : ∀ a0 a1 k, LeO (laws_szIntSS.f k a0 a1) (laws_szIntSS.f (k + 1) a0 a1) := by
  intro a0 a1 k
  have ih0 := laws_szIntSS.mono_l k
  unfold laws_szIntSS.f
  repeat' first
      | (with_reducible exact ih0 _ _ _)
      | (with_reducible exact LeO.refl _)
      | (with_reducible exact LeO.none _)
      | (with_reducible refine LeO.ite ?_ ?_)
      | (with_reducible refine LeO.bind ?_ (fun _ => ?_))
      | exact ih0 _ _ _
      | exact LeO.none _
      | refine LeO.ite ?_ ?_
      | refine LeO.bind ?_ (fun _ => ?_)
set_option maxHeartbeats 8000000 in
set_option maxRecDepth 100000 in
theorem laws_szIntSS.calls (k : Nat) (A0 : Option Addr) (c0 : Nat) (l0 : List (List Int)) (a1 : Int) (r : Int) (w : World) (hr0 : Kd.C (Kd.slice 3 (Kd.int .i64)) w A0 l0.length l0) (hc0 : l0.length ≤ c0) (h : laws_szIntSS.f k l0 a1 = some r) :
    Calls Try.prog 51 #[.slice A0 l0.length c0, .int .i64 a1] w fun e w' => e = .returned (.int .i64 r) ∧ Drawn0 w w' := by
  have HR0 := Aside0.mk hr0
  have HC0 := Aside0.mk hc0
  clear hr0 hc0
  have H : (if (wrap64 (a1 - (l0.length : Int))) < 0 then (some (-1)) else (laws_szIntSS.l0 k l0 (wrap64 (a1 - (l0.length : Int))) 0)) = some r := h
  clear h
  by_cases c3 : (wrap64 (a1 - (l0.length : Int))) < 0
  · rw [if_pos c3] at H
    have c3b0 : decide ((wrap64 (a1 - (l0.length : Int))) < 0) = true := decide_eq_true c3
    clear c3
    obtain rfl := Option.some.inj H
    simp only [Option.some.injEq, Prod.mk.injEq] at H
    obtain ⟨rfl⟩ := H
    go_enter Try.func51, Try.ntmps51
    go_wp2
    go_ret
    exact ⟨by first | rfl | (simp; done) | (simp [*]; done), by repeat (first | exact Drawn0.refl _ | apply Drawn0.step)⟩
  · rw [if_neg c3] at H
    have c3b0 : decide ((wrap64 (a1 - (l0.length : Int))) < 0) = false := decide_eq_false c3
    clear c3
    have H' := Aside0.mk H
    clear H
    go_enter Try.func51, Try.ntmps51
    go_wp2
    go_loopg [1, 5] k (fun kq v1 v5 w' => ∃ (x1_1 : Int) (x5_1 : Int), v1 = .int .i64 x1_1 ∧ v5 = .int .i64 x5_1 ∧ Aside0 (laws_szIntSS.l0 kq l0 x1_1 x5_1 = some r) ∧ Aside0 (kq ≤ k) ∧ Drawn0 w w')
    case atStart => exact ⟨(wrap64 (a1 - (l0.length : Int))), (0), (by first | rfl | (simp; done) | (simp [*]; done)), (by first | rfl | (simp; done) | (simp [*]; done)), H', ⟨Nat.le_refl _⟩, by repeat (first | exact Drawn0.refl _ | apply Drawn0.step)⟩
    case round =>
      clear H'
      try clear p2
      try clear c3
      try clear c3b0
      obtain ⟨x1_1, x5_1, rfl, rfl, HA, HK1, ⟨m1, rfl⟩⟩ := hrel
      cases gk with
      | zero => exact absurd HA.out (by simp [laws_szIntSS.l0])
      | succ k1 =>
        have H := HA.out
        clear HA
        simp only [laws_szIntSS.l0] at H
        by_cases c4 : x5_1 < (l0.length : Int)
        · rw [if_pos c4] at H
          have c4b0 : decide (x5_1 < (l0.length : Int)) = true := decide_eq_true c4
          clear c4
          by_cases c5 : 0 ≤ x5_1
          · rw [if_pos c5] at H
            have c5b0 : decide (0 ≤ x5_1) = true := decide_eq_true c5
            clear c5
            replace H := Option.bind_eq_some_iff.mp H
            obtain ⟨t104, A60, H⟩ := H
            replace H : (if t104 < 0 then (some (-1)) else (laws_szIntSS.l0 k1 l0 t104 (wrap64 (x5_1 + 1)))) = some r := H
            have A6 := Aside0.mk A60
            clear A60
            by_cases c7 : t104 < 0
            · rw [if_pos c7] at H
              have c7b0 : decide (t104 < 0) = true := decide_eq_true c7
              clear c7
              obtain rfl := Option.some.inj H
              simp only [Option.some.injEq, Prod.mk.injEq] at H
              obtain ⟨rfl⟩ := H
              have p103 : 0 ≤ (x5_1 : Int) := of_decide_eq_true (by first | (with_reducible assumption) | assumption)
              have q103 : x5_1 < (l0.length : Int) := of_decide_eq_true (by first | (with_reducible assumption) | assumption)
              obtain ⟨ad103, A103_0, c103_0, e103, hx103_0, hl103_0, hi103_0⟩ := at_L2 HR0.out x5_1 p103 q103
              cases e103
              have HR103_0 := Aside0.mk hi103_0
              have HC103_0 := Aside0.mk hl103_0
              clear hi103_0 hl103_0
              replace p103 := eq_true p103
              replace q103 := eq_true q103
              go_wp2_with (first | ((with_reducible refine gate_callee (f := 95) rfl ?_); refine goesL_ (some 23) rfl rfl Try.func95 (by kernel_rfl) rfl #[.slice A103_0 (rd_L2 l0 x5_1).length c103_0, .int .i64 x1_1] rfl (by (try simp only [List.map_toArray, List.map_cons, List.map_nil]); first | done | rfl | (simp only [List.length_drop, List.length_take]; rfl)) ?_; (with_reducible refine (laws_szIntS.calls _ _ (rd_L2 l0 x5_1) x1_1 t104 _ ?side1 ?side2 A6.out).mono ?_); (case side1 => repeat (first | exact HR103_0.out | (with_reducible refine Kd.C_alloc ?_ _) | (with_reducible refine Kd.C_drewN ?_ _) | (with_reducible refine Kd.C_drew ?_))); (case side2 => exact HC103_0.out); rintro e w' ⟨rfl, ⟨nd, rfl⟩⟩; refine ⟨_, rfl, ?_⟩))
              go_ret
              exact ⟨by first | rfl | (simp; done) | (simp [*]; done), by repeat (first | exact Drawn0.refl _ | apply Drawn0.step)⟩
            · rw [if_neg c7] at H
              have c7b0 : decide (t104 < 0) = false := decide_eq_false c7
              clear c7
              have H' := Aside0.mk H
              clear H
              have p103 : 0 ≤ (x5_1 : Int) := of_decide_eq_true (by first | (with_reducible assumption) | assumption)
              have q103 : x5_1 < (l0.length : Int) := of_decide_eq_true (by first | (with_reducible assumption) | assumption)
              obtain ⟨ad103, A103_0, c103_0, e103, hx103_0, hl103_0, hi103_0⟩ := at_L2 HR0.out x5_1 p103 q103
              cases e103
              have HR103_0 := Aside0.mk hi103_0
              have HC103_0 := Aside0.mk hl103_0
              clear hi103_0 hl103_0
              replace p103 := eq_true p103
              replace q103 := eq_true q103
              go_wp2_with (first | ((with_reducible refine gate_callee (f := 95) rfl ?_); refine goesL_ (some 23) rfl rfl Try.func95 (by kernel_rfl) rfl #[.slice A103_0 (rd_L2 l0 x5_1).length c103_0, .int .i64 x1_1] rfl (by (try simp only [List.map_toArray, List.map_cons, List.map_nil]); first | done | rfl | (simp only [List.length_drop, List.length_take]; rfl)) ?_; (with_reducible refine (laws_szIntS.calls _ _ (rd_L2 l0 x5_1) x1_1 t104 _ ?side1 ?side2 A6.out).mono ?_); (case side1 => repeat (first | exact HR103_0.out | (with_reducible refine Kd.C_alloc ?_ _) | (with_reducible refine Kd.C_drewN ?_ _) | (with_reducible refine Kd.C_drew ?_))); (case side2 => exact HC103_0.out); rintro e w' ⟨rfl, ⟨nd, rfl⟩⟩; refine ⟨_, rfl, ?_⟩))
              go_roundg k1
              case measure => have := HK1.out; omega
              case rel => exact ⟨(t104), (wrap64 (x5_1 + 1)), (by first | rfl | (simp; done) | (simp [*]; done)), (by first | rfl | (simp; done) | (simp [*]; done)), H', ⟨by have := HK1.out; omega⟩, by repeat (first | exact Drawn0.refl _ | apply Drawn0.step)⟩
          · rw [if_neg c5] at H
            exact absurd H (by simp)
        · rw [if_neg c4] at H
          have c4b0 : decide (x5_1 < (l0.length : Int)) = false := decide_eq_false c4
          clear c4
          obtain rfl := Option.some.inj H
          simp only [Option.some.injEq, Prod.mk.injEq] at H
          obtain ⟨rfl⟩ := H
          go_wp2
          go_ret
          exact ⟨by first | rfl | (simp; done) | (simp [*]; done), by repeat (first | exact Drawn0.refl _ | apply Drawn0.step)⟩
def laws_szDfa.f (k : Nat) (l0_0 : List Bool) (l0_1 : List (List Int)) (a1 : Int) : Option (Int) := (laws_szBoolS.f l0_0 a1).bind fun t106 => (if t106 < 0 then (some (-1)) else ((laws_szIntSS.f k l0_1 t106).bind fun t107 => (if t107 < 0 then (some (-1)) else (some t107))))
theorem laws_szDfa.mono : ∀ a0 a1 a2 k, LeO (laws_szDfa.f k a0 a1 a2) (laws_szDfa.f (k + 1) a0 a1 a2) := by
  intro a0 a1 a2 k
  unfold laws_szDfa.f
  repeat' first
      | (with_reducible exact laws_szIntSS.mono _ _ _)
      | (with_reducible exact LeO.refl _)
      | (with_reducible exact LeO.none _)
      | (with_reducible refine LeO.ite ?_ ?_)
      | (with_reducible refine LeO.bind ?_ (fun _ => ?_))
      | exact laws_szIntSS.mono _ _ _
      | exact LeO.none _
      | refine LeO.ite ?_ ?_
      | refine LeO.bind ?_ (fun _ => ?_)
set_option maxHeartbeats 8000000 in
set_option maxRecDepth 100000 in
theorem laws_szDfa.calls (k : Nat) (A0_0 : Option Addr) (c0_0 : Nat) (l0_0 : List Bool) (A0_1 : Option Addr) (c0_1 : Nat) (l0_1 : List (List Int)) (a1 : Int) (r : Int) (w : World) (hr0_0 : Kd.C Kd.bool w A0_0 l0_0.length l0_0) (hc0_0 : l0_0.length ≤ c0_0) (hr0_1 : Kd.C (Kd.slice 3 (Kd.int .i64)) w A0_1 l0_1.length l0_1) (hc0_1 : l0_1.length ≤ c0_1) (h : laws_szDfa.f k l0_0 l0_1 a1 = some r) :
    Calls Try.prog 15 #[.agg #[.slice A0_0 l0_0.length c0_0, .slice A0_1 l0_1.length c0_1], .int .i64 a1] w fun e w' => e = .returned (.int .i64 r) ∧ Below w.heap.size w w' := by
  have hu25 := Try.underlying25
  have HR0_0 := Aside0.mk hr0_0
  have HC0_0 := Aside0.mk hc0_0
  clear hr0_0 hc0_0
  have HR0_1 := Aside0.mk hr0_1
  have HC0_1 := Aside0.mk hc0_1
  clear hr0_1 hc0_1
  have HB := Aside0.mk (Below.refl w.heap.size w)
  have H : ((laws_szBoolS.f l0_0 a1).bind fun t106 => (if t106 < 0 then (some (-1)) else ((laws_szIntSS.f k l0_1 t106).bind fun t107 => (if t107 < 0 then (some (-1)) else (some t107))))) = some r := h
  clear h
  replace H := Option.bind_eq_some_iff.mp H
  obtain ⟨t106, A30, H⟩ := H
  replace H : (if t106 < 0 then (some (-1)) else ((laws_szIntSS.f k l0_1 t106).bind fun t107 => (if t107 < 0 then (some (-1)) else (some t107)))) = some r := H
  have A3 := Aside0.mk A30
  clear A30
  by_cases c4 : t106 < 0
  · rw [if_pos c4] at H
    have c4b0 : decide (t106 < 0) = true := decide_eq_true c4
    clear c4
    obtain rfl := Option.some.inj H
    simp only [Option.some.injEq, Prod.mk.injEq] at H
    obtain ⟨rfl⟩ := H
    go_enter Try.func15, Try.ntmps15
    go_wp2_with (first | ((with_reducible refine gate_dst (N := 2) rfl ?_); refine box_event ?hg (N := 2) ?hd (cs := #[.slice A0_0 l0_0.length c0_0, .slice A0_1 l0_1.length c0_1]) (t := 25) ?hr ?_; (case hd => rfl); (case hg => rfl); (case hr => first | (go_simp; done) | (go_simp; rfl)); intro gb105 hg w5 hbox hb; have n0_ := Aside0.mk (below_step (by repeat (first | (with_reducible first | exact HB.out | apply below_alloc | apply pw_below_drewN | apply below_drew1) | exact HB.out)) hb); have n1_ := Aside0.mk (hbox); have n2_ := Aside0.mk ((by rw [hg]; exact (below_size (by repeat (first | (with_reducible first | exact HB.out | apply below_alloc | apply pw_below_drewN | apply below_drew1) | exact HB.out))) : w.heap.size ≤ gb105)); have n3_ := Aside0.mk ((by rw [hg]; exact (below_size (by repeat (first | (with_reducible first | exact HB.out | apply below_alloc | apply pw_below_drewN | apply below_drew1) | exact HB.out))) : w.heap.size ≤ gb105)); clear HB; have HB := n0_; have BK105 := n1_; have GW105 := n2_; have GE105 := n3_; clear n0_ n1_ n2_ n3_; clear hb hbox hg; have hcz6_0 : w5.cell? ⟨gb105, 0, none⟩ = some (.slice A0_0 l0_0.length c0_0) := (blk_cell BK105.out 0).trans rfl; have hcz6_1 : w5.cell? ⟨gb105, 1, none⟩ = some (.slice A0_1 l0_1.length c0_1) := (blk_cell BK105.out 1).trans rfl; have hfz6_0 := blk_frozen BK105.out 0; have hfz6_1 := blk_frozen BK105.out 1) | ((with_reducible refine gate_callee (f := 50) rfl ?_); refine goesL_ (some 8) rfl rfl Try.func50 (by kernel_rfl) rfl #[.slice A0_0 l0_0.length c0_0, .int .i64 a1] rfl (by (try simp only [List.map_toArray, List.map_cons, List.map_nil]); first | done | rfl | (simp only [List.length_drop, List.length_take]; rfl)) ?_; (with_reducible refine (laws_szBoolS.calls _ _ l0_0 a1 t106 _ ?side1 ?side2 A3.out).mono ?_); (case side1 => repeat (first | exact (Kd.C_below HR0_0.out HB.out) | (with_reducible refine Kd.C_alloc ?_ _) | (with_reducible refine Kd.C_drewN ?_ _) | (with_reducible refine Kd.C_drew ?_))); (case side2 => exact HC0_0.out); rintro e w' ⟨rfl, ⟨nd, rfl⟩⟩; refine ⟨_, rfl, ?_⟩))
    go_ret
    exact ⟨by first | rfl | (simp [errW_none, errW_some] <;> rfl) | (simp [*, errW_none, errW_some] <;> rfl), by repeat (first | (with_reducible first | exact HB.out | apply below_alloc | apply pw_below_drewN | apply below_drew1 | refine below_set ?_ GE105.out) | exact HB.out)⟩
  · rw [if_neg c4] at H
    have c4b0 : decide (t106 < 0) = false := decide_eq_false c4
    clear c4
    replace H := Option.bind_eq_some_iff.mp H
    obtain ⟨t107, A70, H⟩ := H
    replace H : (if t107 < 0 then (some (-1)) else (some t107)) = some r := H
    have A7 := Aside0.mk A70
    clear A70
    by_cases c8 : t107 < 0
    · rw [if_pos c8] at H
      have c8b0 : decide (t107 < 0) = true := decide_eq_true c8
      clear c8
      obtain rfl := Option.some.inj H
      simp only [Option.some.injEq, Prod.mk.injEq] at H
      obtain ⟨rfl⟩ := H
      go_enter Try.func15, Try.ntmps15
      go_wp2_with (first | ((with_reducible refine gate_dst (N := 2) rfl ?_); refine box_event ?hg (N := 2) ?hd (cs := #[.slice A0_0 l0_0.length c0_0, .slice A0_1 l0_1.length c0_1]) (t := 25) ?hr ?_; (case hd => rfl); (case hg => rfl); (case hr => first | (go_simp; done) | (go_simp; rfl)); intro gb105 hg w9 hbox hb; have n0_ := Aside0.mk (below_step (by repeat (first | (with_reducible first | exact HB.out | apply below_alloc | apply pw_below_drewN | apply below_drew1) | exact HB.out)) hb); have n1_ := Aside0.mk (hbox); have n2_ := Aside0.mk ((by rw [hg]; exact (below_size (by repeat (first | (with_reducible first | exact HB.out | apply below_alloc | apply pw_below_drewN | apply below_drew1) | exact HB.out))) : w.heap.size ≤ gb105)); have n3_ := Aside0.mk ((by rw [hg]; exact (below_size (by repeat (first | (with_reducible first | exact HB.out | apply below_alloc | apply pw_below_drewN | apply below_drew1) | exact HB.out))) : w.heap.size ≤ gb105)); clear HB; have HB := n0_; have BK105 := n1_; have GW105 := n2_; have GE105 := n3_; clear n0_ n1_ n2_ n3_; clear hb hbox hg; have hcz10_0 : w9.cell? ⟨gb105, 0, none⟩ = some (.slice A0_0 l0_0.length c0_0) := (blk_cell BK105.out 0).trans rfl; have hcz10_1 : w9.cell? ⟨gb105, 1, none⟩ = some (.slice A0_1 l0_1.length c0_1) := (blk_cell BK105.out 1).trans rfl; have hfz10_0 := blk_frozen BK105.out 0; have hfz10_1 := blk_frozen BK105.out 1) | ((with_reducible refine gate_callee (f := 50) rfl ?_); refine goesL_ (some 8) rfl rfl Try.func50 (by kernel_rfl) rfl #[.slice A0_0 l0_0.length c0_0, .int .i64 a1] rfl (by (try simp only [List.map_toArray, List.map_cons, List.map_nil]); first | done | rfl | (simp only [List.length_drop, List.length_take]; rfl)) ?_; (with_reducible refine (laws_szBoolS.calls _ _ l0_0 a1 t106 _ ?side1 ?side2 A3.out).mono ?_); (case side1 => repeat (first | exact (Kd.C_below HR0_0.out HB.out) | (with_reducible refine Kd.C_alloc ?_ _) | (with_reducible refine Kd.C_drewN ?_ _) | (with_reducible refine Kd.C_drew ?_))); (case side2 => exact HC0_0.out); rintro e w' ⟨rfl, ⟨nd, rfl⟩⟩; refine ⟨_, rfl, ?_⟩) | ((with_reducible refine gate_callee (f := 51) rfl ?_); refine goesL_ (some 14) rfl rfl Try.func51 (by kernel_rfl) rfl #[.slice A0_1 l0_1.length c0_1, .int .i64 t106] rfl (by (try simp only [List.map_toArray, List.map_cons, List.map_nil]); first | done | rfl | (simp only [List.length_drop, List.length_take]; rfl)) ?_; (with_reducible refine (laws_szIntSS.calls k _ _ l0_1 t106 t107 _ ?side1 ?side2 A7.out).mono ?_); (case side1 => repeat (first | exact (Kd.C_below HR0_1.out (by repeat (first | (with_reducible first | exact HB.out | apply below_alloc | apply pw_below_drewN | apply below_drew1 | refine below_set ?_ GE105.out) | exact HB.out))) | (with_reducible refine Kd.C_alloc ?_ _) | (with_reducible refine Kd.C_drewN ?_ _) | (with_reducible refine Kd.C_drew ?_))); (case side2 => exact HC0_1.out); rintro e w' ⟨rfl, ⟨nd, rfl⟩⟩; refine ⟨_, rfl, ?_⟩))
      go_ret
      exact ⟨by first | rfl | (simp [errW_none, errW_some] <;> rfl) | (simp [*, errW_none, errW_some] <;> rfl), by repeat (first | (with_reducible first | exact HB.out | apply below_alloc | apply pw_below_drewN | apply below_drew1 | refine below_set ?_ GE105.out) | exact HB.out)⟩
    · rw [if_neg c8] at H
      have c8b0 : decide (t107 < 0) = false := decide_eq_false c8
      clear c8
      obtain rfl := Option.some.inj H
      simp only [Option.some.injEq, Prod.mk.injEq] at H
      obtain ⟨rfl⟩ := H
      go_enter Try.func15, Try.ntmps15
      go_wp2_with (first | ((with_reducible refine gate_dst (N := 2) rfl ?_); refine box_event ?hg (N := 2) ?hd (cs := #[.slice A0_0 l0_0.length c0_0, .slice A0_1 l0_1.length c0_1]) (t := 25) ?hr ?_; (case hd => rfl); (case hg => rfl); (case hr => first | (go_simp; done) | (go_simp; rfl)); intro gb105 hg w11 hbox hb; have n0_ := Aside0.mk (below_step (by repeat (first | (with_reducible first | exact HB.out | apply below_alloc | apply pw_below_drewN | apply below_drew1) | exact HB.out)) hb); have n1_ := Aside0.mk (hbox); have n2_ := Aside0.mk ((by rw [hg]; exact (below_size (by repeat (first | (with_reducible first | exact HB.out | apply below_alloc | apply pw_below_drewN | apply below_drew1) | exact HB.out))) : w.heap.size ≤ gb105)); have n3_ := Aside0.mk ((by rw [hg]; exact (below_size (by repeat (first | (with_reducible first | exact HB.out | apply below_alloc | apply pw_below_drewN | apply below_drew1) | exact HB.out))) : w.heap.size ≤ gb105)); clear HB; have HB := n0_; have BK105 := n1_; have GW105 := n2_; have GE105 := n3_; clear n0_ n1_ n2_ n3_; clear hb hbox hg; have hcz12_0 : w11.cell? ⟨gb105, 0, none⟩ = some (.slice A0_0 l0_0.length c0_0) := (blk_cell BK105.out 0).trans rfl; have hcz12_1 : w11.cell? ⟨gb105, 1, none⟩ = some (.slice A0_1 l0_1.length c0_1) := (blk_cell BK105.out 1).trans rfl; have hfz12_0 := blk_frozen BK105.out 0; have hfz12_1 := blk_frozen BK105.out 1) | ((with_reducible refine gate_callee (f := 50) rfl ?_); refine goesL_ (some 8) rfl rfl Try.func50 (by kernel_rfl) rfl #[.slice A0_0 l0_0.length c0_0, .int .i64 a1] rfl (by (try simp only [List.map_toArray, List.map_cons, List.map_nil]); first | done | rfl | (simp only [List.length_drop, List.length_take]; rfl)) ?_; (with_reducible refine (laws_szBoolS.calls _ _ l0_0 a1 t106 _ ?side1 ?side2 A3.out).mono ?_); (case side1 => repeat (first | exact (Kd.C_below HR0_0.out HB.out) | (with_reducible refine Kd.C_alloc ?_ _) | (with_reducible refine Kd.C_drewN ?_ _) | (with_reducible refine Kd.C_drew ?_))); (case side2 => exact HC0_0.out); rintro e w' ⟨rfl, ⟨nd, rfl⟩⟩; refine ⟨_, rfl, ?_⟩) | ((with_reducible refine gate_callee (f := 51) rfl ?_); refine goesL_ (some 14) rfl rfl Try.func51 (by kernel_rfl) rfl #[.slice A0_1 l0_1.length c0_1, .int .i64 t106] rfl (by (try simp only [List.map_toArray, List.map_cons, List.map_nil]); first | done | rfl | (simp only [List.length_drop, List.length_take]; rfl)) ?_; (with_reducible refine (laws_szIntSS.calls k _ _ l0_1 t106 t107 _ ?side1 ?side2 A7.out).mono ?_); (case side1 => repeat (first | exact (Kd.C_below HR0_1.out (by repeat (first | (with_reducible first | exact HB.out | apply below_alloc | apply pw_below_drewN | apply below_drew1 | refine below_set ?_ GE105.out) | exact HB.out))) | (with_reducible refine Kd.C_alloc ?_ _) | (with_reducible refine Kd.C_drewN ?_ _) | (with_reducible refine Kd.C_drew ?_))); (case side2 => exact HC0_1.out); rintro e w' ⟨rfl, ⟨nd, rfl⟩⟩; refine ⟨_, rfl, ?_⟩))
      go_ret
      exact ⟨by first | rfl | (simp [errW_none, errW_some] <;> rfl) | (simp [*, errW_none, errW_some] <;> rfl), by repeat (first | (with_reducible first | exact HB.out | apply below_alloc | apply pw_below_drewN | apply below_drew1 | refine below_set ?_ GE105.out) | exact HB.out)⟩
def spec_l1In.f (a0 : Int) (a1 : Int) (a2 : Int) : Option (Bool) := if a0 ≥ a1 then (some (decide (a0 ≤ a2))) else (some false)
set_option maxHeartbeats 8000000 in
set_option maxRecDepth 100000 in
theorem spec_l1In.calls (a0 : Int) (a1 : Int) (a2 : Int) (r : Bool) (w : World) (h : spec_l1In.f a0 a1 a2 = some r) :
    Calls Try.prog 52 #[.int .i64 a0, .int .i64 a1, .int .i64 a2] w fun e w' => e = .returned (.bool r) ∧ Drawn0 w w' := by
  have H : (if a0 ≥ a1 then (some (decide (a0 ≤ a2))) else (some false)) = some r := h
  clear h
  by_cases c4 : a0 ≥ a1
  · rw [if_pos c4] at H
    have c4b0 : decide (a1 ≤ a0) = true := decide_eq_true c4
    clear c4
    obtain rfl := Option.some.inj H
    simp only [Option.some.injEq, Prod.mk.injEq] at H
    obtain ⟨rfl⟩ := H
    go_enter Try.func52, Try.ntmps52
    go_wp2
    go_ret
    exact ⟨by first | rfl | (simp; done) | (simp [*]; done), by repeat (first | exact Drawn0.refl _ | apply Drawn0.step)⟩
  · rw [if_neg c4] at H
    have c4b0 : decide (a1 ≤ a0) = false := decide_eq_false c4
    clear c4
    obtain rfl := Option.some.inj H
    simp only [Option.some.injEq, Prod.mk.injEq] at H
    obtain ⟨rfl⟩ := H
    go_enter Try.func52, Try.ntmps52
    go_wp2
    go_ret
    exact ⟨by first | rfl | (simp; done) | (simp [*]; done), by repeat (first | exact Drawn0.refl _ | apply Drawn0.step)⟩
end Go.Proofs.Ytoknogcefajfiaa.P
end
section
namespace Go.Proofs.Ytoknogcefajfiaa.P
open Go.RowKit Go.Proofs.YtoknogcefajfiaaW.PrintWords Go.Proofs.YtoknogcefajfiaaW.PrintLast Go.Proofs.YtoknogcefajfiaaW.PrintMore
attribute [local go_sem] max2_int min2_int max_two min_two max_three min_three max_four min_four
set_option linter.unusedVariables false
set_option linter.unusedSimpArgs false
mutual
def spec_IsValidDfa.j0 : Nat → Int → Bool → List Bool → List (List Int) → Option (Bool)
  | 0, _, _, _, _ => none
  | k + 1, x3, x18, x109000, x109001 => if x18 = true then (some false) else (spec_IsValidDfa.l0 k x3 0 x109000 x109001)
def spec_IsValidDfa.l0 : Nat → Int → Int → List Bool → List (List Int) → Option (Bool)
  | 0, _, _, _, _ => none
  | k + 1, x3, x4, x109000, x109001 => if x4 < x3 then (if 0 ≤ x4 then (if x4 < (x109001.length : Int) then (if ((rd_L2 x109001 x4).length : Int) = 3 then (spec_IsValidDfa.l1 k x3 x4 0 x109000 x109001) else (some false)) else (none)) else (none)) else (some true)
def spec_IsValidDfa.l1 : Nat → Int → Int → Int → List Bool → List (List Int) → Option (Bool)
  | 0, _, _, _, _, _ => none
  | k + 1, x3, x4, x5, x109000, x109001 => if 0 ≤ x4 then (if x4 < (x109001.length : Int) then (if x5 < ((rd_L2 x109001 x4).length : Int) then (if 0 ≤ x5 then ((spec_l1In.f (rd (rd_L2 x109001 x4) x5) 0 (wrap64 (x3 - 1))).bind fun t114 => (if t114 = true then (spec_IsValidDfa.l1 k x3 x4 (wrap64 (x5 + 1)) x109000 x109001) else (some false))) else (none)) else (spec_IsValidDfa.l0 k x3 (wrap64 (x4 + 1)) x109000 x109001)) else (none)) else (none)
end
def spec_IsValidDfa.f (k : Nat) (l0_0 : List Bool) (l0_1 : List (List Int)) : Option (Bool) := (spec_l1In.f (l0_0.length : Int) 1 40).bind fun t109 => (if t109 = true then (spec_IsValidDfa.j0 k (l0_0.length : Int) ((l0_1.length : Int) != (l0_0.length : Int)) l0_0 l0_1) else (spec_IsValidDfa.j0 k (l0_0.length : Int) true l0_0 l0_1))
theorem spec_IsValidDfa.mono_l : ∀ k, (∀ y0 y1 y2 y3, LeO (spec_IsValidDfa.j0 k y0 y1 y2 y3) (spec_IsValidDfa.j0 (k + 1) y0 y1 y2 y3)) ∧ (∀ y0 y1 y2 y3, LeO (spec_IsValidDfa.l0 k y0 y1 y2 y3) (spec_IsValidDfa.l0 (k + 1) y0 y1 y2 y3)) ∧ (∀ y0 y1 y2 y3 y4, LeO (spec_IsValidDfa.l1 k y0 y1 y2 y3 y4) (spec_IsValidDfa.l1 (k + 1) y0 y1 y2 y3 y4))
 | 0 => ⟨fun _ _ _ _ r h => by simp [spec_IsValidDfa.j0] at h, fun _ _ _ _ r h => by simp [spec_IsValidDfa.l0] at h, fun _ _ _ _ _ r h => by simp [spec_IsValidDfa.l1] at h⟩
 | k + 1 => by
  obtain ⟨ih0, ih1, ih2⟩ := spec_IsValidDfa.mono_l k
  refine ⟨?_, ?_, ?_⟩
  ·intro y0 y1 y2 y3
   unfold spec_IsValidDfa.j0
   repeat' first
   | (with_reducible exact ih0 _ _ _ _)
   | (with_reducible exact ih1 _ _ _ _)
   | (with_reducible exact ih2 _ _ _ _ _)
   | (with_reducible exact LeO.refl _)
   | (with_reducible exact LeO.none _)
   | (with_reducible refine LeO.ite ?_ ?_)
   | (with_reducible refine LeO.bind ?_ (fun _ => ?_))
   | exact ih0 _ _ _ _
   | exact ih1 _ _ _ _
   | exact ih2 _ _ _ _ _
   | exact LeO.none _
   | refine LeO.ite ?_ ?_
   | refine LeO.bind ?_ (fun _ => ?_)
  ·intro y0 y1 y2 y3
   unfold spec_IsValidDfa.l0
   repeat' first
   | (with_reducible exact ih0 _ _ _ _)
   | (with_reducible exact ih1 _ _ _ _)
   | (with_reducible exact ih2 _ _ _ _ _)
   | (with_reducible exact LeO.refl _)
   | (with_reducible exact LeO.none _)
   | (with_reducible refine LeO.ite ?_ ?_)
   | (with_reducible refine LeO.bind ?_ (fun _ => ?_))
   | exact ih0 _ _ _ _
   | exact ih1 _ _ _ _
   | exact ih2 _ _ _ _ _
   | exact LeO.none _
   | refine LeO.ite ?_ ?_
   | refine LeO.bind ?_ (fun _ => ?_)
  ·intro y0 y1 y2 y3 y4
   unfold spec_IsValidDfa.l1
   repeat' first
   | (with_reducible exact ih0 _ _ _ _)
   | (with_reducible exact ih1 _ _ _ _)
   | (with_reducible exact ih2 _ _ _ _ _)
   | (with_reducible exact LeO.refl _)
   | (with_reducible exact LeO.none _)
   | (with_reducible refine LeO.ite ?_ ?_)
   | (with_reducible refine LeO.bind ?_ (fun _ => ?_))
   | exact ih0 _ _ _ _
   | exact ih1 _ _ _ _
   | exact ih2 _ _ _ _ _
   | exact LeO.none _
   | refine LeO.ite ?_ ?_
   | refine LeO.bind ?_ (fun _ => ?_)
theorem spec_IsValidDfa.mono : ∀ a0 a1 k, LeO (spec_IsValidDfa.f k a0 a1) (spec_IsValidDfa.f (k + 1) a0 a1) := by
 intro a0 a1 k
 obtain ⟨ih0, ih1, ih2⟩ := spec_IsValidDfa.mono_l k
 unfold spec_IsValidDfa.f
 repeat' first
   | (with_reducible exact ih0 _ _ _ _)
   | (with_reducible exact ih1 _ _ _ _)
   | (with_reducible exact ih2 _ _ _ _ _)
   | (with_reducible exact LeO.refl _)
   | (with_reducible exact LeO.none _)
   | (with_reducible refine LeO.ite ?_ ?_)
   | (with_reducible refine LeO.bind ?_ (fun _ => ?_))
   | exact ih0 _ _ _ _
   | exact ih1 _ _ _ _
   | exact ih2 _ _ _ _ _
   | exact LeO.none _
   | refine LeO.ite ?_ ?_
   | refine LeO.bind ?_ (fun _ => ?_)
set_option maxHeartbeats 8000000 in
set_option maxRecDepth 100000 in
theorem spec_IsValidDfa.calls (k : Nat) (A0_0 : Option Addr) (c0_0 : Nat) (l0_0 : List Bool) (A0_1 : Option Addr) (c0_1 : Nat) (l0_1 : List (List Int)) (r : Bool) (w : World) (hr0_0 : Kd.C Kd.bool w A0_0 l0_0.length l0_0) (hc0_0 : l0_0.length ≤ c0_0) (hr0_1 : Kd.C (Kd.slice 3 (Kd.int .i64)) w A0_1 l0_1.length l0_1) (hc0_1 : l0_1.length ≤ c0_1) (h : spec_IsValidDfa.f k l0_0 l0_1 = some r) :
  Calls Try.prog 16 #[.agg #[.slice A0_0 l0_0.length c0_0, .slice A0_1 l0_1.length c0_1]] w fun e w' => e = .returned (.bool r) ∧ Below w.heap.size w w' := by
 have hu28 := Try.underlying28
 have HR0_0 := Aside0.mk hr0_0
 have HC0_0 := Aside0.mk hc0_0
 clear hr0_0 hc0_0
 have HR0_1 := Aside0.mk hr0_1
 have HC0_1 := Aside0.mk hc0_1
 clear hr0_1 hc0_1
 have HB := Aside0.mk (Below.refl w.heap.size w)
 have H : ((spec_l1In.f (l0_0.length : Int) 1 40).bind fun t109 => (if t109 = true then (spec_IsValidDfa.j0 k (l0_0.length : Int) ((l0_1.length : Int) != (l0_0.length : Int)) l0_0 l0_1) else (spec_IsValidDfa.j0 k (l0_0.length : Int) true l0_0 l0_1))) = some r := h
 clear h
 have HC2 := Aside0.mk H
 clear H
 go_enter Try.func16, Try.ntmps16
 go_upto_region 2 with (first | ((with_reducible refine gate_dst (N := 1) rfl ?_); (try (refine gate_guard (by rfl) ?_; dsimp only)); refine box_event ?hg (N := 1) ?hd (cs := #[.slice A0_0 l0_0.length c0_0, .slice A0_1 l0_1.length c0_1]) (t := 28) ?hr ?_; (case hd => rfl); (case hg => rfl); (case hr => first | (go_simp; done) | (go_simp; rfl)); intro gb108 hg w3 hbox hb; have n0_ := Aside0.mk (below_step (by repeat (first | (with_reducible first | exact HB.out | apply below_alloc | apply pw_below_drewN | apply below_drew1) | exact HB.out)) hb); have n1_ := Aside0.mk (hbox); have n2_ := Aside0.mk ((by rw [hg]; exact (below_size (by repeat (first | (with_reducible first | exact HB.out | apply below_alloc | apply pw_below_drewN | apply below_drew1) | exact HB.out))) : w.heap.size ≤ gb108)); have n3_ := Aside0.mk ((by rw [hg]; exact (below_size (by repeat (first | (with_reducible first | exact HB.out | apply below_alloc | apply pw_below_drewN | apply below_drew1) | exact HB.out))) : w.heap.size ≤ gb108)); clear HB; have HB := n0_; have BK108 := n1_; have GW108 := n2_; have GE108 := n3_; clear n0_ n1_ n2_ n3_; clear hb hbox hg; have hcz4_0 : w3.cell? ⟨gb108, 0, none⟩ = some (.slice A0_0 l0_0.length c0_0) := (blk_cell BK108.out 0).trans rfl; have hcz4_1 : w3.cell? ⟨gb108, 1, none⟩ = some (.slice A0_1 l0_1.length c0_1) := (blk_cell BK108.out 1).trans rfl; have hfz4_0 := blk_frozen BK108.out 0; have hfz4_1 := blk_frozen BK108.out 1))
 (try simp only [Act.put, List.setIfInBounds_toArray, List.set_cons_zero, List.set_cons_succ])
 go_cut [18] (fun v18 wc => ∃ (kq : Nat) (x18_1 : Bool), v18 = .bool x18_1 ∧ Aside0 (spec_IsValidDfa.j0 kq (l0_0.length : Int) x18_1 l0_0 l0_1 = some r) ∧ Aside0 (kq ≤ k) ∧ Aside0 (wc.heap[gb108]? = some (.cells #[(.slice A0_0 l0_0.length c0_0), (.slice A0_1 l0_1.length c0_1)] 28 (0, 0))) ∧ Aside0 (Below w.heap.size w wc))
 case first =>
  have H := HC2.out
  clear HC2
  replace H := Option.bind_eq_some_iff.mp H
  obtain ⟨t109, A50, H⟩ := H
  replace H : (if t109 = true then (spec_IsValidDfa.j0 k (l0_0.length : Int) ((l0_1.length : Int) != (l0_0.length : Int)) l0_0 l0_1) else (spec_IsValidDfa.j0 k (l0_0.length : Int) true l0_0 l0_1)) = some r := H
  have A5 := Aside0.mk A50
  clear A50
  by_cases c6 : t109 = true
  ·subst c6
   have H1 : (spec_IsValidDfa.j0 k (l0_0.length : Int) ((l0_1.length : Int) != (l0_0.length : Int)) l0_0 l0_1) = some r := by rw [if_pos rfl] at H; exact H
   clear H
   have H := H1
   clear H1
   have H' := Aside0.mk H
   clear H
   go_wp2_with (first | ((with_reducible refine gate_callee (f := 52) rfl ?_); refine goesL_ (some 10) rfl rfl Try.func52 (by kernel_rfl) rfl #[.int .i64 (l0_0.length : Int), .int .i64 1, .int .i64 40] rfl (by (try simp only [List.map_toArray, List.map_cons, List.map_nil]); first | done | rfl | (simp only [List.length_drop, List.length_take]; rfl)) ?_; (with_reducible refine (spec_l1In.calls (l0_0.length : Int) 1 40 true _ A5.out).mono ?_); rintro e w' ⟨rfl, ⟨nd, rfl⟩⟩; refine ⟨_, rfl, ?_⟩; have hcz7_0 : w3.cell? ⟨gb108, 0, none⟩ = some (.slice A0_0 l0_0.length c0_0) := (blk_cell BK108.out 0).trans rfl; have hcz7_1 : w3.cell? ⟨gb108, 1, none⟩ = some (.slice A0_1 l0_1.length c0_1) := (blk_cell BK108.out 1).trans rfl; have hfz7_0 := blk_frozen BK108.out 0; have hfz7_1 := blk_frozen BK108.out 1))
   go_meet
   case rel => exact ⟨_, (((l0_1.length : Int) != (l0_0.length : Int))), (by first | rfl | (simp; done) | (simp [*]; done)), H', ⟨by first | omega | exact Nat.le_refl _⟩, ⟨by (with_reducible repeat (first | refine blk_drewN ?_ _ | refine blk_drew ?_ | refine blk_alloc ?_ _)); exact BK108.out⟩, ⟨by repeat (first | (with_reducible first | exact HB.out | apply below_alloc | apply pw_below_drewN | apply below_drew1 | refine below_set ?_ GE108.out) | exact HB.out)⟩⟩
  ·replace c6 := Bool.eq_false_iff.mpr c6
   subst c6
   have H1 : (spec_IsValidDfa.j0 k (l0_0.length : Int) true l0_0 l0_1) = some r := by rw [if_neg (show ¬ (false = true) by decide)] at H; exact H
   clear H
   have H := H1
   clear H1
   have H' := Aside0.mk H
   clear H
   go_wp2_with (first | ((with_reducible refine gate_callee (f := 52) rfl ?_); refine goesL_ (some 10) rfl rfl Try.func52 (by kernel_rfl) rfl #[.int .i64 (l0_0.length : Int), .int .i64 1, .int .i64 40] rfl (by (try simp only [List.map_toArray, List.map_cons, List.map_nil]); first | done | rfl | (simp only [List.length_drop, List.length_take]; rfl)) ?_; (with_reducible refine (spec_l1In.calls (l0_0.length : Int) 1 40 false _ A5.out).mono ?_); rintro e w' ⟨rfl, ⟨nd, rfl⟩⟩; refine ⟨_, rfl, ?_⟩))
   go_meet
   case rel => exact ⟨_, (true), (by first | rfl | (simp; done) | (simp [*]; done)), H', ⟨by first | omega | exact Nat.le_refl _⟩, ⟨by (with_reducible repeat (first | refine blk_drewN ?_ _ | refine blk_drew ?_ | refine blk_alloc ?_ _)); exact BK108.out⟩, ⟨by repeat (first | (with_reducible first | exact HB.out | apply below_alloc | apply pw_below_drewN | apply below_drew1 | refine below_set ?_ GE108.out) | exact HB.out)⟩⟩
 case rest =>
  clear HC2
  try clear c1
  try clear p2
  try clear c5
  try clear c6
  try clear hcz4_0
  try clear hcz4_1
  try clear hcz7_0
  try clear hcz7_1
  try clear hfz4_0
  try clear hfz4_1
  try clear hfz7_0
  try clear hfz7_1
  obtain ⟨kq, x18_1, rfl, HA, HJ1, BK108, HB⟩ := hcut
  cases kq with
  | zero => exact absurd HA.out (by simp [spec_IsValidDfa.j0])
  | succ kj1 =>
   have H := HA.out
   clear HA
   simp only [spec_IsValidDfa.j0] at H
   by_cases c8 : x18_1 = true
   ·subst c8
    have H1 : (some false) = some r := by rw [if_pos rfl] at H; exact H
    clear H
    have H := H1
    clear H1
    obtain rfl := Option.some.inj H
    simp only [Option.some.injEq, Prod.mk.injEq] at H
    obtain ⟨rfl⟩ := H
    go_wp2
    go_ret
    exact ⟨by first | rfl | (simp [errW_none, errW_some] <;> rfl) | (simp [*, errW_none, errW_some] <;> rfl), by repeat (first | (with_reducible first | exact HB.out | apply below_alloc | apply pw_below_drewN | apply below_drew1 | refine below_set ?_ GE108.out) | exact HB.out)⟩
   ·replace c8 := Bool.eq_false_iff.mpr c8
    subst c8
    have H1 : (spec_IsValidDfa.l0 kj1 (l0_0.length : Int) 0 l0_0 l0_1) = some r := by rw [if_neg (show ¬ (false = true) by decide)] at H; exact H
    clear H
    have H := H1
    clear H1
    have H' := Aside0.mk H
    clear H
    go_wp2
    go_loopg [4] kj1 (fun kq v4 w' => ∃ (x4_2 : Int), v4 = .int .i64 x4_2 ∧ Aside0 (spec_IsValidDfa.l0 kq (l0_0.length : Int) x4_2 l0_0 l0_1 = some r) ∧ Aside0 (kq ≤ kj1) ∧ Aside0 (w'.heap[gb108]? = some (.cells #[(.slice A0_0 l0_0.length c0_0), (.slice A0_1 l0_1.length c0_1)] 28 (0, 0))) ∧ Aside0 (Below w.heap.size w w'))
    case atStart => exact ⟨(0), (by first | rfl | (simp; done) | (simp [*]; done)), H', ⟨Nat.le_refl _⟩, ⟨by (with_reducible repeat (first | refine blk_drewN ?_ _ | refine blk_drew ?_ | refine blk_alloc ?_ _)); exact BK108.out⟩, ⟨by repeat (first | (with_reducible first | exact HB.out | apply below_alloc | apply pw_below_drewN | apply below_drew1 | refine below_set ?_ GE108.out) | exact HB.out)⟩⟩
    case round =>
     clear H'
     try clear c1
     try clear p2
     try clear c5
     try clear c6
     try clear c8
     try clear hcz4_0
     try clear hcz4_1
     try clear hcz7_0
     try clear hcz7_1
     try clear hfz4_0
     try clear hfz4_1
     try clear hfz7_0
     try clear hfz7_1
     try clear p2
     obtain ⟨x4_2, rfl, HA, HK2, BK108, HB⟩ := hrel
     cases gk with
     | zero => exact absurd HA.out (by simp [spec_IsValidDfa.l0])
     | succ k2 =>
      have H := HA.out
      clear HA
      simp only [spec_IsValidDfa.l0] at H
      by_cases c9 : x4_2 < (l0_0.length : Int)
      ·rw [if_pos c9] at H
       have c9b0 : decide (x4_2 < (l0_0.length : Int)) = true := decide_eq_true c9
       clear c9
       by_cases c10 : 0 ≤ x4_2
       ·rw [if_pos c10] at H
        have c10b0 : decide (0 ≤ x4_2) = true := decide_eq_true c10
        clear c10
        by_cases c11 : x4_2 < (l0_1.length : Int)
        ·rw [if_pos c11] at H
         have c11b0 : decide (x4_2 < (l0_1.length : Int)) = true := decide_eq_true c11
         clear c11
         by_cases c12 : ((rd_L2 l0_1 x4_2).length : Int) = 3
         ·rw [if_pos c12] at H
          have c12b0 : (((rd_L2 l0_1 x4_2).length : Int) == 3) = true := beq_iff_eq.mpr c12
          have c12b1 : (((rd_L2 l0_1 x4_2).length : Int) != 3) = false := bne_eq_false_iff_eq.mpr c12
          clear c12
          have H' := Aside0.mk H
          clear H
          have hcz13_0 : wr.cell? ⟨gb108, 0, none⟩ = some (.slice A0_0 l0_0.length c0_0) := (blk_cell BK108.out 0).trans rfl
          have hcz13_1 : wr.cell? ⟨gb108, 1, none⟩ = some (.slice A0_1 l0_1.length c0_1) := (blk_cell BK108.out 1).trans rfl
          have hfz13_0 := blk_frozen BK108.out 0
          have hfz13_1 := blk_frozen BK108.out 1
          have p110 : 0 ≤ (x4_2 : Int) := of_decide_eq_true (by first | (with_reducible assumption) | assumption)
          have q110 : x4_2 < (l0_1.length : Int) := of_decide_eq_true (by first | (with_reducible assumption) | assumption)
          obtain ⟨ad110, A110_0, c110_0, e110, hx110_0, hl110_0, hi110_0⟩ := at_L2 HR0_1.out x4_2 p110 q110
          cases e110
          replace hx110_0 := (HB.out.cell (World.block_lt_of_cell? w _ hx110_0)).trans hx110_0
          have HR110_0 := Aside0.mk hi110_0
          have HC110_0 := Aside0.mk hl110_0
          clear hi110_0 hl110_0
          replace p110 := eq_true p110
          replace q110 := eq_true q110
          go_wp2
          go_loopg [5] k2 (fun kq v5 w' => ∃ (x5_3 : Int), v5 = .int .i64 x5_3 ∧ Aside0 (spec_IsValidDfa.l1 kq (l0_0.length : Int) x4_2 x5_3 l0_0 l0_1 = some r) ∧ Aside0 (kq ≤ k2) ∧ Aside0 (w'.heap[gb108]? = some (.cells #[(.slice A0_0 l0_0.length c0_0), (.slice (some ad110) l0_1.length c0_1)] 28 (0, 0))) ∧ Aside0 (Below w.heap.size w w'))
          case atStart => exact ⟨(0), (by first | rfl | (simp; done) | (simp [*]; done)), H', ⟨Nat.le_refl _⟩, ⟨by (with_reducible repeat (first | refine blk_drewN ?_ _ | refine blk_drew ?_ | refine blk_alloc ?_ _)); exact BK108.out⟩, ⟨by repeat (first | (with_reducible first | exact HB.out | apply below_alloc | apply pw_below_drewN | apply below_drew1 | refine below_set ?_ GE108.out) | exact HB.out)⟩⟩
          case round =>
           clear H'
           try clear c1
           try clear p1
           try clear q1
           try clear hx1
           try clear p2
           try clear c5
           try clear c6
           try clear c8
           try clear c9
           try clear c9b0
           try clear c10
           try clear c10b0
           try clear c11
           try clear c11b0
           try clear p11
           try clear q11
           try clear hx11
           try clear c12
           try clear c12b0
           try clear c12b1
           try clear hcz13_0
           try clear hcz13_1
           try clear hcz4_0
           try clear hcz4_1
           try clear hcz7_0
           try clear hcz7_1
           try clear hfz13_0
           try clear hfz13_1
           try clear hfz4_0
           try clear hfz4_1
           try clear hfz7_0
           try clear hfz7_1
           try clear hx110_0
           try clear p110
           try clear p2
           try clear q110
           obtain ⟨x5_3, rfl, HA, HK3, BK108, HB⟩ := hrel
           cases gk with
           | zero => exact absurd HA.out (by simp [spec_IsValidDfa.l1])
           | succ k3 =>
            have H := HA.out
            clear HA
            simp only [spec_IsValidDfa.l1] at H
            by_cases c14 : 0 ≤ x4_2
            ·rw [if_pos c14] at H
             have c14b0 : decide (0 ≤ x4_2) = true := decide_eq_true c14
             clear c14
             by_cases c15 : x4_2 < (l0_1.length : Int)
             ·rw [if_pos c15] at H
              have c15b0 : decide (x4_2 < (l0_1.length : Int)) = true := decide_eq_true c15
              clear c15
              by_cases c16 : x5_3 < ((rd_L2 l0_1 x4_2).length : Int)
              ·rw [if_pos c16] at H
               have c16b0 : decide (x5_3 < ((rd_L2 l0_1 x4_2).length : Int)) = true := decide_eq_true c16
               clear c16
               by_cases c17 : 0 ≤ x5_3
               ·rw [if_pos c17] at H
                have c17b0 : decide (0 ≤ x5_3) = true := decide_eq_true c17
                clear c17
                replace H := Option.bind_eq_some_iff.mp H
                obtain ⟨t114, A180, H⟩ := H
                replace H : (if t114 = true then (spec_IsValidDfa.l1 k3 (l0_0.length : Int) x4_2 (wrap64 (x5_3 + 1)) l0_0 l0_1) else (some false)) = some r := H
                have A18 := Aside0.mk A180
                clear A180
                by_cases c19 : t114 = true
                ·subst c19
                 have H1 : (spec_IsValidDfa.l1 k3 (l0_0.length : Int) x4_2 (wrap64 (x5_3 + 1)) l0_0 l0_1) = some r := by rw [if_pos rfl] at H; exact H
                 clear H
                 have H := H1
                 clear H1
                 have H' := Aside0.mk H
                 clear H
                 have hcz20_0 : wr.cell? ⟨gb108, 0, none⟩ = some (.slice A0_0 l0_0.length c0_0) := (blk_cell BK108.out 0).trans rfl
                 have hcz20_1 : wr.cell? ⟨gb108, 1, none⟩ = some (.slice (some ad110) l0_1.length c0_1) := (blk_cell BK108.out 1).trans rfl
                 have hfz20_0 := blk_frozen BK108.out 0
                 have hfz20_1 := blk_frozen BK108.out 1
                 have p111 : 0 ≤ (x4_2 : Int) := of_decide_eq_true (by first | (with_reducible assumption) | assumption)
                 have q111 : x4_2 < (l0_1.length : Int) := of_decide_eq_true (by first | (with_reducible assumption) | assumption)
                 obtain ⟨ad111, A111_0, c111_0, e111, hx111_0, hl111_0, hi111_0⟩ := at_L2 HR0_1.out x4_2 p111 q111
                 obtain rfl : ad110 = ad111 := (by injection e111)
                 replace hx111_0 := (HB.out.cell (World.block_lt_of_cell? w _ hx111_0)).trans hx111_0
                 have HR111_0 := Aside0.mk hi111_0
                 have HC111_0 := Aside0.mk hl111_0
                 clear hi111_0 hl111_0
                 replace p111 := eq_true p111
                 replace q111 := eq_true q111
                 have p112 : 0 ≤ (x4_2 : Int) := of_decide_eq_true (by first | (with_reducible assumption) | assumption)
                 have q112 : x4_2 < (l0_1.length : Int) := of_decide_eq_true (by first | (with_reducible assumption) | assumption)
                 obtain ⟨ad112, A112_0, c112_0, e112, hx112_0, hl112_0, hi112_0⟩ := at_L2 HR0_1.out x4_2 p112 q112
                 obtain rfl : ad110 = ad112 := (by injection e112)
                 replace hx112_0 := (HB.out.cell (World.block_lt_of_cell? w _ hx112_0)).trans hx112_0
                 have HR112_0 := Aside0.mk hi112_0
                 have HC112_0 := Aside0.mk hl112_0
                 clear hi112_0 hl112_0
                 replace p112 := eq_true p112
                 replace q112 := eq_true q112
                 have ea_ := Option.some.inj (hx111_0.symm.trans hx112_0)
                 injection ea_ with ea_ en_ ec_
                 subst ea_
                 subst ec_
                 clear en_
                 have p113 : 0 ≤ (x5_3 : Int) := of_decide_eq_true (by first | (with_reducible assumption) | assumption)
                 have q113 : x5_3 < ((rd_L2 l0_1 x4_2).length : Int) := of_decide_eq_true (by first | (with_reducible assumption) | assumption)
                 obtain ⟨ad113, e113, hx113_0⟩ := Kd.at_int HR112_0.out x5_3 p113 q113
                 cases e113
                 replace hx113_0 := (HB.out.cell (World.block_lt_of_cell? w _ hx113_0)).trans hx113_0
                 replace p113 := eq_true p113
                 replace q113 := eq_true q113
                 go_wp2_with (first | ((with_reducible refine gate_callee (f := 52) rfl ?_); refine goesL_ (some 51) rfl rfl Try.func52 (by kernel_rfl) rfl #[.int .i64 (rd (rd_L2 l0_1 x4_2) x5_3), .int .i64 0, .int .i64 (wrap64 ((l0_0.length : Int) - 1))] rfl (by (try simp only [List.map_toArray, List.map_cons, List.map_nil]); first | done | rfl | (simp only [List.length_drop, List.length_take]; rfl)) ?_; (with_reducible refine (spec_l1In.calls (rd (rd_L2 l0_1 x4_2) x5_3) 0 (wrap64 ((l0_0.length : Int) - 1)) true _ A18.out).mono ?_); rintro e w' ⟨rfl, ⟨nd, rfl⟩⟩; refine ⟨_, rfl, ?_⟩))
                 go_roundg k3
                 case measure => have := HJ1.out; have := HK2.out; have := HK3.out; omega
                 case rel => exact ⟨(wrap64 (x5_3 + 1)), (by first | rfl | (simp; done) | (simp [*]; done)), H', ⟨by have := HJ1.out; have := HK2.out; have := HK3.out; omega⟩, ⟨by (with_reducible repeat (first | refine blk_drewN ?_ _ | refine blk_drew ?_ | refine blk_alloc ?_ _)); exact BK108.out⟩, ⟨by repeat (first | (with_reducible first | exact HB.out | apply below_alloc | apply pw_below_drewN | apply below_drew1 | refine below_set ?_ GE108.out) | exact HB.out)⟩⟩
                ·replace c19 := Bool.eq_false_iff.mpr c19
                 subst c19
                 have H1 : (some false) = some r := by rw [if_neg (show ¬ (false = true) by decide)] at H; exact H
                 clear H
                 have H := H1
                 clear H1
                 obtain rfl := Option.some.inj H
                 simp only [Option.some.injEq, Prod.mk.injEq] at H
                 obtain ⟨rfl⟩ := H
                 have hcz21_0 : wr.cell? ⟨gb108, 0, none⟩ = some (.slice A0_0 l0_0.length c0_0) := (blk_cell BK108.out 0).trans rfl
                 have hcz21_1 : wr.cell? ⟨gb108, 1, none⟩ = some (.slice (some ad110) l0_1.length c0_1) := (blk_cell BK108.out 1).trans rfl
                 have hfz21_0 := blk_frozen BK108.out 0
                 have hfz21_1 := blk_frozen BK108.out 1
                 have p111 : 0 ≤ (x4_2 : Int) := of_decide_eq_true (by first | (with_reducible assumption) | assumption)
                 have q111 : x4_2 < (l0_1.length : Int) := of_decide_eq_true (by first | (with_reducible assumption) | assumption)
                 obtain ⟨ad111, A111_0, c111_0, e111, hx111_0, hl111_0, hi111_0⟩ := at_L2 HR0_1.out x4_2 p111 q111
                 obtain rfl : ad110 = ad111 := (by injection e111)
                 replace hx111_0 := (HB.out.cell (World.block_lt_of_cell? w _ hx111_0)).trans hx111_0
                 have HR111_0 := Aside0.mk hi111_0
                 have HC111_0 := Aside0.mk hl111_0
                 clear hi111_0 hl111_0
                 replace p111 := eq_true p111
                 replace q111 := eq_true q111
                 have p112 : 0 ≤ (x4_2 : Int) := of_decide_eq_true (by first | (with_reducible assumption) | assumption)
                 have q112 : x4_2 < (l0_1.length : Int) := of_decide_eq_true (by first | (with_reducible assumption) | assumption)
                 obtain ⟨ad112, A112_0, c112_0, e112, hx112_0, hl112_0, hi112_0⟩ := at_L2 HR0_1.out x4_2 p112 q112
                 obtain rfl : ad110 = ad112 := (by injection e112)
                 replace hx112_0 := (HB.out.cell (World.block_lt_of_cell? w _ hx112_0)).trans hx112_0
                 have HR112_0 := Aside0.mk hi112_0
                 have HC112_0 := Aside0.mk hl112_0
                 clear hi112_0 hl112_0
                 replace p112 := eq_true p112
                 replace q112 := eq_true q112
                 have ea_ := Option.some.inj (hx111_0.symm.trans hx112_0)
                 injection ea_ with ea_ en_ ec_
                 subst ea_
                 subst ec_
                 clear en_
                 have p113 : 0 ≤ (x5_3 : Int) := of_decide_eq_true (by first | (with_reducible assumption) | assumption)
                 have q113 : x5_3 < ((rd_L2 l0_1 x4_2).length : Int) := of_decide_eq_true (by first | (with_reducible assumption) | assumption)
                 obtain ⟨ad113, e113, hx113_0⟩ := Kd.at_int HR112_0.out x5_3 p113 q113
                 cases e113
                 replace hx113_0 := (HB.out.cell (World.block_lt_of_cell? w _ hx113_0)).trans hx113_0
                 replace p113 := eq_true p113
                 replace q113 := eq_true q113
                 go_wp2_with (first | ((with_reducible refine gate_callee (f := 52) rfl ?_); refine goesL_ (some 51) rfl rfl Try.func52 (by kernel_rfl) rfl #[.int .i64 (rd (rd_L2 l0_1 x4_2) x5_3), .int .i64 0, .int .i64 (wrap64 ((l0_0.length : Int) - 1))] rfl (by (try simp only [List.map_toArray, List.map_cons, List.map_nil]); first | done | rfl | (simp only [List.length_drop, List.length_take]; rfl)) ?_; (with_reducible refine (spec_l1In.calls (rd (rd_L2 l0_1 x4_2) x5_3) 0 (wrap64 ((l0_0.length : Int) - 1)) false _ A18.out).mono ?_); rintro e w' ⟨rfl, ⟨nd, rfl⟩⟩; refine ⟨_, rfl, ?_⟩))
                 go_ret
                 exact ⟨by first | rfl | (simp [errW_none, errW_some] <;> rfl) | (simp [*, errW_none, errW_some] <;> rfl), by repeat (first | (with_reducible first | exact HB.out | apply below_alloc | apply pw_below_drewN | apply below_drew1 | refine below_set ?_ GE108.out) | exact HB.out)⟩
               ·rw [if_neg c17] at H
                exact absurd H (by simp)
              ·rw [if_neg c16] at H
               have c16b0 : decide (x5_3 < ((rd_L2 l0_1 x4_2).length : Int)) = false := decide_eq_false c16
               clear c16
               have H' := Aside0.mk H
               clear H
               have hcz22_0 : wr.cell? ⟨gb108, 0, none⟩ = some (.slice A0_0 l0_0.length c0_0) := (blk_cell BK108.out 0).trans rfl
               have hcz22_1 : wr.cell? ⟨gb108, 1, none⟩ = some (.slice (some ad110) l0_1.length c0_1) := (blk_cell BK108.out 1).trans rfl
               have hfz22_0 := blk_frozen BK108.out 0
               have hfz22_1 := blk_frozen BK108.out 1
               have p111 : 0 ≤ (x4_2 : Int) := of_decide_eq_true (by first | (with_reducible assumption) | assumption)
               have q111 : x4_2 < (l0_1.length : Int) := of_decide_eq_true (by first | (with_reducible assumption) | assumption)
               obtain ⟨ad111, A111_0, c111_0, e111, hx111_0, hl111_0, hi111_0⟩ := at_L2 HR0_1.out x4_2 p111 q111
               obtain rfl : ad110 = ad111 := (by injection e111)
               replace hx111_0 := (HB.out.cell (World.block_lt_of_cell? w _ hx111_0)).trans hx111_0
               have HR111_0 := Aside0.mk hi111_0
               have HC111_0 := Aside0.mk hl111_0
               clear hi111_0 hl111_0
               replace p111 := eq_true p111
               replace q111 := eq_true q111
               go_wp2
               go_roundg k3
               case measure => have := HJ1.out; have := HK2.out; have := HK3.out; omega
               case rel => exact ⟨(wrap64 (x4_2 + 1)), (by first | rfl | (simp; done) | (simp [*]; done)), H', ⟨by have := HJ1.out; have := HK2.out; have := HK3.out; omega⟩, ⟨by (with_reducible repeat (first | refine blk_drewN ?_ _ | refine blk_drew ?_ | refine blk_alloc ?_ _)); exact BK108.out⟩, ⟨by repeat (first | (with_reducible first | exact HB.out | apply below_alloc | apply pw_below_drewN | apply below_drew1 | refine below_set ?_ GE108.out) | exact HB.out)⟩⟩
             ·rw [if_neg c15] at H
              exact absurd H (by simp)
            ·rw [if_neg c14] at H
             exact absurd H (by simp)
         ·rw [if_neg c12] at H
          have c12b0 : (((rd_L2 l0_1 x4_2).length : Int) == 3) = false := beq_eq_false_iff_ne.mpr c12
          have c12b1 : (((rd_L2 l0_1 x4_2).length : Int) != 3) = true := bne_iff_ne.mpr c12
          obtain rfl := Option.some.inj H
          simp only [Option.some.injEq, Prod.mk.injEq] at H
          obtain ⟨rfl⟩ := H
          have hcz23_0 : wr.cell? ⟨gb108, 0, none⟩ = some (.slice A0_0 l0_0.length c0_0) := (blk_cell BK108.out 0).trans rfl
          have hcz23_1 : wr.cell? ⟨gb108, 1, none⟩ = some (.slice A0_1 l0_1.length c0_1) := (blk_cell BK108.out 1).trans rfl
          have hfz23_0 := blk_frozen BK108.out 0
          have hfz23_1 := blk_frozen BK108.out 1
          have p110 : 0 ≤ (x4_2 : Int) := of_decide_eq_true (by first | (with_reducible assumption) | assumption)
          have q110 : x4_2 < (l0_1.length : Int) := of_decide_eq_true (by first | (with_reducible assumption) | assumption)
          obtain ⟨ad110, A110_0, c110_0, e110, hx110_0, hl110_0, hi110_0⟩ := at_L2 HR0_1.out x4_2 p110 q110
          cases e110
          replace hx110_0 := (HB.out.cell (World.block_lt_of_cell? w _ hx110_0)).trans hx110_0
          have HR110_0 := Aside0.mk hi110_0
          have HC110_0 := Aside0.mk hl110_0
          clear hi110_0 hl110_0
          replace p110 := eq_true p110
          replace q110 := eq_true q110
          go_wp2
          go_ret
          exact ⟨by first | rfl | (simp [errW_none, errW_some] <;> rfl) | (simp [*, errW_none, errW_some] <;> rfl), by repeat (first | (with_reducible first | exact HB.out | apply below_alloc | apply pw_below_drewN | apply below_drew1 | refine below_set ?_ GE108.out) | exact HB.out)⟩
        ·rw [if_neg c11] at H
         exact absurd H (by simp)
       ·rw [if_neg c10] at H
        exact absurd H (by simp)
      ·rw [if_neg c9] at H
       have c9b0 : decide (x4_2 < (l0_0.length : Int)) = false := decide_eq_false c9
       clear c9
       obtain rfl := Option.some.inj H
       simp only [Option.some.injEq, Prod.mk.injEq] at H
       obtain ⟨rfl⟩ := H
       go_wp2
       go_ret
       exact ⟨by first | rfl | (simp [errW_none, errW_some] <;> rfl) | (simp [*, errW_none, errW_some] <;> rfl), by repeat (first | (with_reducible first | exact HB.out | apply below_alloc | apply pw_below_drewN | apply below_drew1 | refine below_set ?_ GE108.out) | exact HB.out)⟩
end Go.Proofs.Ytoknogcefajfiaa.P
end
section
namespace Go.Proofs.Ytoknogcefajfiaa.P
open Go.RowKit Go.Proofs.YtoknogcefajfiaaW.PrintWords Go.Proofs.YtoknogcefajfiaaW.PrintLast Go.Proofs.YtoknogcefajfiaaW.PrintMore
attribute [local go_sem] max2_int min2_int max_two min_two max_three min_three max_four min_four
set_option linter.unusedVariables false
set_option linter.unusedSimpArgs false
def laws_eqBoolS.l0 : Nat → List Bool → List Bool → Int → Option (Bool)
  | 0, _, _, _ => none
  | k + 1, x0, x1, x5 => if x5 < (x0.length : Int) then (if 0 ≤ x5 then (if x5 < (x1.length : Int) then (if ((rdOf false x0 x5) != (rdOf false x1 x5)) = true then (some false) else (laws_eqBoolS.l0 k x0 x1 (wrap64 (x5 + 1)))) else (none)) else (none)) else (some true)
def laws_eqBoolS.f (k : Nat) (l0 : List Bool) (l1 : List Bool) : Option (Bool) := if (l0.length : Int) = (l1.length : Int) then (laws_eqBoolS.l0 k l0 l1 0) else (some false)
theorem laws_eqBoolS.mono_l : ∀ k, (∀ y0 y1 y2, LeO (laws_eqBoolS.l0 k y0 y1 y2) (laws_eqBoolS.l0 (k + 1) y0 y1 y2))
  | 0 => fun _ _ _ r h => by simp [laws_eqBoolS.l0] at h
  | k + 1 => by
    have ih0 := laws_eqBoolS.mono_l k
    · intro y0 y1 y2
      unfold laws_eqBoolS.l0
      repeat' first
      | (with_reducible exact ih0 _ _ _)
      | (with_reducible exact LeO.refl _)
      | (with_reducible exact LeO.none _)
      | (with_reducible refine LeO.ite ?_ ?_)
      | (with_reducible refine LeO.bind ?_ (fun _ => ?_))
      | exact ih0 _ _ _
      | exact LeO.none _
      | refine LeO.ite ?_ ?_
      | refine LeO.bind ?_ (fun _ => ?_)
theorem laws_eqBoolS.mono : ∀ a0 a1 k, LeO (laws_eqBoolS.f k a0 a1) (laws_eqBoolS.f (k + 1) a0 a1) := by
  intro a0 a1 k
  have ih0 := laws_eqBoolS.mono_l k
  unfold laws_eqBoolS.f
  repeat' first
      | (with_reducible exact ih0 _ _ _)
      | (with_reducible exact LeO.refl _)
      | (with_reducible exact LeO.none _)
      | (with_reducible refine LeO.ite ?_ ?_)
      | (with_reducible refine LeO.bind ?_ (fun _ => ?_))
      | exact ih0 _ _ _
      | exact LeO.none _
      | refine LeO.ite ?_ ?_
      | refine LeO.bind ?_ (fun _ => ?_)
set_option maxHeartbeats 8000000 in
set_option maxRecDepth 100000 in
theorem laws_eqBoolS.calls (k : Nat) (A0 : Option Addr) (c0 : Nat) (l0 : List Bool) (A1 : Option Addr) (c1 : Nat) (l1 : List Bool) (r : Bool) (w : World) (hr0 : Kd.C Kd.bool w A0 l0.length l0) (hc0 : l0.length ≤ c0) (hr1 : Kd.C Kd.bool w A1 l1.length l1) (hc1 : l1.length ≤ c1) (h : laws_eqBoolS.f k l0 l1 = some r) :
    Calls Try.prog 38 #[.slice A0 l0.length c0, .slice A1 l1.length c1] w fun e w' => e = .returned (.bool r) ∧ Drawn0 w w' := by
  have HR0 := Aside0.mk hr0
  have HC0 := Aside0.mk hc0
  clear hr0 hc0
  have HR1 := Aside0.mk hr1
  have HC1 := Aside0.mk hc1
  clear hr1 hc1
  have H : (if (l0.length : Int) = (l1.length : Int) then (laws_eqBoolS.l0 k l0 l1 0) else (some false)) = some r := h
  clear h
  by_cases c3 : (l0.length : Int) = (l1.length : Int)
  · rw [if_pos c3] at H
    have c3b0 : ((l0.length : Int) == (l1.length : Int)) = true := beq_iff_eq.mpr c3
    have c3b1 : ((l0.length : Int) != (l1.length : Int)) = false := bne_eq_false_iff_eq.mpr c3
    have c3b2 : (l0.length == l1.length) = true := by first | simpa using c3 | (simp at c3 ⊢; omega)
    clear c3
    have H' := Aside0.mk H
    clear H
    go_enter Try.func38, Try.ntmps38
    go_wp2
    repeat (go_quiet (fail); try go_wp2)
    go_loopg [5] k (fun kq v5 w' => ∃ (x5_1 : Int), v5 = .int .i64 x5_1 ∧ Aside0 (laws_eqBoolS.l0 kq l0 l1 x5_1 = some r) ∧ Aside0 (kq ≤ k) ∧ Drawn0 w w')
    case atStart => exact ⟨(0), (by first | rfl | (simp; done) | (simp [*]; done)), H', ⟨Nat.le_refl _⟩, by repeat (first | exact Drawn0.refl _ | apply Drawn0.step)⟩
    case round =>
      clear H'
      try clear c1
      try clear p2
      try clear c3
      try clear c3b0
      try clear c3b1
      try clear c3b2
      obtain ⟨x5_1, rfl, HA, HK1, ⟨m1, rfl⟩⟩ := hrel
      cases gk with
      | zero => exact absurd HA.out (by simp [laws_eqBoolS.l0])
      | succ k1 =>
        have H := HA.out
        clear HA
        simp only [laws_eqBoolS.l0] at H
        by_cases c4 : x5_1 < (l0.length : Int)
        · rw [if_pos c4] at H
          have c4b0 : decide (x5_1 < (l0.length : Int)) = true := decide_eq_true c4
          clear c4
          by_cases c5 : 0 ≤ x5_1
          · rw [if_pos c5] at H
            have c5b0 : decide (0 ≤ x5_1) = true := decide_eq_true c5
            clear c5
            by_cases c6 : x5_1 < (l1.length : Int)
            · rw [if_pos c6] at H
              have c6b0 : decide (x5_1 < (l1.length : Int)) = true := decide_eq_true c6
              clear c6
              by_cases c7 : ((rdOf false l0 x5_1) != (rdOf false l1 x5_1)) = true
              · rw [if_pos c7] at H
                have c7b0 : ((rdOf false l0 x5_1) != (rdOf false l1 x5_1)) = true := c7
                (try (have c7b1 : decide ((rdOf false l0 x5_1) = (rdOf false l1 x5_1)) = false := by simpa using c7))
                (try (have c7b2 : ((rdOf false l0 x5_1) == (rdOf false l1 x5_1)) = false := by simpa using c7))
                (try (have c7b3 : ¬ ((rdOf false l0 x5_1) = (rdOf false l1 x5_1)) := by simpa using c7))
                clear c7
                obtain rfl := Option.some.inj H
                simp only [Option.some.injEq, Prod.mk.injEq] at H
                obtain ⟨rfl⟩ := H
                have p142 : 0 ≤ (x5_1 : Int) := of_decide_eq_true (by first | (with_reducible assumption) | assumption)
                have q142 : x5_1 < (l0.length : Int) := of_decide_eq_true (by first | (with_reducible assumption) | assumption)
                obtain ⟨ad142, e142, hx142_0⟩ := Kd.at_bool HR0.out x5_1 p142 q142
                cases e142
                replace p142 := eq_true p142
                replace q142 := eq_true q142
                have p143 : 0 ≤ (x5_1 : Int) := of_decide_eq_true (by first | (with_reducible assumption) | assumption)
                have q143 : x5_1 < (l1.length : Int) := of_decide_eq_true (by first | (with_reducible assumption) | assumption)
                obtain ⟨ad143, e143, hx143_0⟩ := Kd.at_bool HR1.out x5_1 p143 q143
                cases e143
                replace p143 := eq_true p143
                replace q143 := eq_true q143
                go_wp2
                repeat (go_quiet (fail); try go_wp2)
                go_ret
                exact ⟨by first | rfl | (simp; done) | (simp [*]; done), by repeat (first | exact Drawn0.refl _ | apply Drawn0.step)⟩
              · rw [if_neg c7] at H
                have c7b0 : ((rdOf false l0 x5_1) != (rdOf false l1 x5_1)) = false := by simpa using c7
                (try (have c7b1 : decide ((rdOf false l0 x5_1) = (rdOf false l1 x5_1)) = true := by simpa using c7))
                (try (have c7b2 : ((rdOf false l0 x5_1) == (rdOf false l1 x5_1)) = true := by simpa using c7))
                clear c7
                have H' := Aside0.mk H
                clear H
                have p142 : 0 ≤ (x5_1 : Int) := of_decide_eq_true (by first | (with_reducible assumption) | assumption)
                have q142 : x5_1 < (l0.length : Int) := of_decide_eq_true (by first | (with_reducible assumption) | assumption)
                obtain ⟨ad142, e142, hx142_0⟩ := Kd.at_bool HR0.out x5_1 p142 q142
                cases e142
                replace p142 := eq_true p142
                replace q142 := eq_true q142
                have p143 : 0 ≤ (x5_1 : Int) := of_decide_eq_true (by first | (with_reducible assumption) | assumption)
                have q143 : x5_1 < (l1.length : Int) := of_decide_eq_true (by first | (with_reducible assumption) | assumption)
                obtain ⟨ad143, e143, hx143_0⟩ := Kd.at_bool HR1.out x5_1 p143 q143
                cases e143
                replace p143 := eq_true p143
                replace q143 := eq_true q143
                go_wp2
                repeat (go_quiet (fail); try go_wp2)
                go_roundg k1
                case measure => have := HK1.out; omega
                case rel => exact ⟨(wrap64 (x5_1 + 1)), (by first | rfl | (simp; done) | (simp [*]; done)), H', ⟨by have := HK1.out; omega⟩, by repeat (first | exact Drawn0.refl _ | apply Drawn0.step)⟩
            · rw [if_neg c6] at H
              exact absurd H (by simp)
          · rw [if_neg c5] at H
            exact absurd H (by simp)
        · rw [if_neg c4] at H
          have c4b0 : decide (x5_1 < (l0.length : Int)) = false := decide_eq_false c4
          clear c4
          obtain rfl := Option.some.inj H
          simp only [Option.some.injEq, Prod.mk.injEq] at H
          obtain ⟨rfl⟩ := H
          go_wp2
          repeat (go_quiet (fail); try go_wp2)
          go_ret
          exact ⟨by first | rfl | (simp; done) | (simp [*]; done), by repeat (first | exact Drawn0.refl _ | apply Drawn0.step)⟩
  · rw [if_neg c3] at H
    have c3b0 : ((l0.length : Int) == (l1.length : Int)) = false := beq_eq_false_iff_ne.mpr c3
    have c3b1 : ((l0.length : Int) != (l1.length : Int)) = true := bne_iff_ne.mpr c3
    have c3b2 : (l0.length == l1.length) = false := by first | simpa using c3 | (simp at c3 ⊢; omega)
    obtain rfl := Option.some.inj H
    simp only [Option.some.injEq, Prod.mk.injEq] at H
    obtain ⟨rfl⟩ := H
    go_enter Try.func38, Try.ntmps38
    go_wp2
    repeat (go_quiet (fail); try go_wp2)
    go_ret
    exact ⟨by first | rfl | (simp; done) | (simp [*]; done), by repeat (first | exact Drawn0.refl _ | apply Drawn0.step)⟩
def laws_eqIntS.l0 : Nat → List Int → List Int → Int → Option (Bool)
  | 0, _, _, _ => none
  | k + 1, x0, x1, x5 => if x5 < (x0.length : Int) then (if 0 ≤ x5 then (if x5 < (x1.length : Int) then (if (rd x0 x5) = (rd x1 x5) then (laws_eqIntS.l0 k x0 x1 (wrap64 (x5 + 1))) else (some false)) else (none)) else (none)) else (some true)
def laws_eqIntS.f (k : Nat) (l0 : List Int) (l1 : List Int) : Option (Bool) := if (l0.length : Int) = (l1.length : Int) then (laws_eqIntS.l0 k l0 l1 0) else (some false)
theorem laws_eqIntS.mono_l : ∀ k, (∀ y0 y1 y2, LeO (laws_eqIntS.l0 k y0 y1 y2) (laws_eqIntS.l0 (k + 1) y0 y1 y2))
  | 0 => fun _ _ _ r h => by simp [laws_eqIntS.l0] at h
  | k + 1 => by
    have ih0 := laws_eqIntS.mono_l k
    · intro y0 y1 y2
      unfold laws_eqIntS.l0
      repeat' first
      | (with_reducible exact ih0 _ _ _)
      | (with_reducible exact LeO.refl _)
      | (with_reducible exact LeO.none _)
      | (with_reducible refine LeO.ite ?_ ?_)
      | (with_reducible refine LeO.bind ?_ (fun _ => ?_))
      | exact ih0 _ _ _
      | exact LeO.none _
      | refine LeO.ite ?_ ?_
      | refine LeO.bind ?_ (fun _ => ?_)
theorem laws_eqIntS.mono : ∀ a0 a1 k, LeO (laws_eqIntS.f k a0 a1) (laws_eqIntS.f (k + 1) a0 a1) := by
  intro a0 a1 k
  have ih0 := laws_eqIntS.mono_l k
  unfold laws_eqIntS.f
  repeat' first
      | (with_reducible exact ih0 _ _ _)
      | (with_reducible exact LeO.refl _)
      | (with_reducible exact LeO.none _)
      | (with_reducible refine LeO.ite ?_ ?_)
      | (with_reducible refine LeO.bind ?_ (fun _ => ?_))
      | exact ih0 _ _ _
      | exact LeO.none _
      | refine LeO.ite ?_ ?_
      | refine LeO.bind ?_ (fun _ => ?_)
set_option maxHeartbeats 8000000 in
set_option maxRecDepth 100000 in
theorem laws_eqIntS.calls (k : Nat) (A0 : Option Addr) (c0 : Nat) (l0 : List Int) (A1 : Option Addr) (c1 : Nat) (l1 : List Int) (r : Bool) (w : World) (hr0 : Kd.C (Kd.int .i64) w A0 l0.length l0) (hc0 : l0.length ≤ c0) (hr1 : Kd.C (Kd.int .i64) w A1 l1.length l1) (hc1 : l1.length ≤ c1) (h : laws_eqIntS.f k l0 l1 = some r) :
    Calls Try.prog 99 #[.slice A0 l0.length c0, .slice A1 l1.length c1] w fun e w' => e = .returned (.bool r) ∧ Drawn0 w w' := by
  have HR0 := Aside0.mk hr0
  have HC0 := Aside0.mk hc0
  clear hr0 hc0
  have HR1 := Aside0.mk hr1
  have HC1 := Aside0.mk hc1
  clear hr1 hc1
  have H : (if (l0.length : Int) = (l1.length : Int) then (laws_eqIntS.l0 k l0 l1 0) else (some false)) = some r := h
  clear h
  by_cases c3 : (l0.length : Int) = (l1.length : Int)
  · rw [if_pos c3] at H
    have c3b0 : ((l0.length : Int) == (l1.length : Int)) = true := beq_iff_eq.mpr c3
    have c3b1 : ((l0.length : Int) != (l1.length : Int)) = false := bne_eq_false_iff_eq.mpr c3
    have c3b2 : (l0.length == l1.length) = true := by first | simpa using c3 | (simp at c3 ⊢; omega)
    clear c3
    have H' := Aside0.mk H
    clear H
    go_enter Try.func99, Try.ntmps99
    go_wp2
    repeat (go_quiet (fail); try go_wp2)
    go_loopg [5] k (fun kq v5 w' => ∃ (x5_1 : Int), v5 = .int .i64 x5_1 ∧ Aside0 (laws_eqIntS.l0 kq l0 l1 x5_1 = some r) ∧ Aside0 (kq ≤ k) ∧ Drawn0 w w')
    case atStart => exact ⟨(0), (by first | rfl | (simp; done) | (simp [*]; done)), H', ⟨Nat.le_refl _⟩, by repeat (first | exact Drawn0.refl _ | apply Drawn0.step)⟩
    case round =>
      clear H'
      try clear c1
      try clear p2
      try clear c3
      try clear c3b0
      try clear c3b1
      try clear c3b2
      obtain ⟨x5_1, rfl, HA, HK1, ⟨m1, rfl⟩⟩ := hrel
      cases gk with
      | zero => exact absurd HA.out (by simp [laws_eqIntS.l0])
      | succ k1 =>
        have H := HA.out
        clear HA
        simp only [laws_eqIntS.l0] at H
        by_cases c4 : x5_1 < (l0.length : Int)
        · rw [if_pos c4] at H
          have c4b0 : decide (x5_1 < (l0.length : Int)) = true := decide_eq_true c4
          clear c4
          by_cases c5 : 0 ≤ x5_1
          · rw [if_pos c5] at H
            have c5b0 : decide (0 ≤ x5_1) = true := decide_eq_true c5
            clear c5
            by_cases c6 : x5_1 < (l1.length : Int)
            · rw [if_pos c6] at H
              have c6b0 : decide (x5_1 < (l1.length : Int)) = true := decide_eq_true c6
              clear c6
              by_cases c7 : (rd l0 x5_1) = (rd l1 x5_1)
              · rw [if_pos c7] at H
                have c7b0 : ((rd l0 x5_1) == (rd l1 x5_1)) = true := beq_iff_eq.mpr c7
                have c7b1 : ((rd l0 x5_1) != (rd l1 x5_1)) = false := bne_eq_false_iff_eq.mpr c7
                clear c7
                have H' := Aside0.mk H
                clear H
                have p144 : 0 ≤ (x5_1 : Int) := of_decide_eq_true (by first | (with_reducible assumption) | assumption)
                have q144 : x5_1 < (l0.length : Int) := of_decide_eq_true (by first | (with_reducible assumption) | assumption)
                obtain ⟨ad144, e144, hx144_0⟩ := Kd.at_int HR0.out x5_1 p144 q144
                cases e144
                replace p144 := eq_true p144
                replace q144 := eq_true q144
                have p145 : 0 ≤ (x5_1 : Int) := of_decide_eq_true (by first | (with_reducible assumption) | assumption)
                have q145 : x5_1 < (l1.length : Int) := of_decide_eq_true (by first | (with_reducible assumption) | assumption)
                obtain ⟨ad145, e145, hx145_0⟩ := Kd.at_int HR1.out x5_1 p145 q145
                cases e145
                replace p145 := eq_true p145
                replace q145 := eq_true q145
                go_wp2
                repeat (go_quiet (fail); try go_wp2)
                go_roundg k1
                case measure => have := HK1.out; omega
                case rel => exact ⟨(wrap64 (x5_1 + 1)), (by first | rfl | (simp; done) | (simp [*]; done)), H', ⟨by have := HK1.out; omega⟩, by repeat (first | exact Drawn0.refl _ | apply Drawn0.step)⟩
              · rw [if_neg c7] at H
                have c7b0 : ((rd l0 x5_1) == (rd l1 x5_1)) = false := beq_eq_false_iff_ne.mpr c7
                have c7b1 : ((rd l0 x5_1) != (rd l1 x5_1)) = true := bne_iff_ne.mpr c7
                obtain rfl := Option.some.inj H
                simp only [Option.some.injEq, Prod.mk.injEq] at H
                obtain ⟨rfl⟩ := H
                have p144 : 0 ≤ (x5_1 : Int) := of_decide_eq_true (by first | (with_reducible assumption) | assumption)
                have q144 : x5_1 < (l0.length : Int) := of_decide_eq_true (by first | (with_reducible assumption) | assumption)
                obtain ⟨ad144, e144, hx144_0⟩ := Kd.at_int HR0.out x5_1 p144 q144
                cases e144
                replace p144 := eq_true p144
                replace q144 := eq_true q144
                have p145 : 0 ≤ (x5_1 : Int) := of_decide_eq_true (by first | (with_reducible assumption) | assumption)
                have q145 : x5_1 < (l1.length : Int) := of_decide_eq_true (by first | (with_reducible assumption) | assumption)
                obtain ⟨ad145, e145, hx145_0⟩ := Kd.at_int HR1.out x5_1 p145 q145
                cases e145
                replace p145 := eq_true p145
                replace q145 := eq_true q145
                go_wp2
                repeat (go_quiet (fail); try go_wp2)
                go_ret
                exact ⟨by first | rfl | (simp; done) | (simp [*]; done), by repeat (first | exact Drawn0.refl _ | apply Drawn0.step)⟩
            · rw [if_neg c6] at H
              exact absurd H (by simp)
          · rw [if_neg c5] at H
            exact absurd H (by simp)
        · rw [if_neg c4] at H
          have c4b0 : decide (x5_1 < (l0.length : Int)) = false := decide_eq_false c4
          clear c4
          obtain rfl := Option.some.inj H
          simp only [Option.some.injEq, Prod.mk.injEq] at H
          obtain ⟨rfl⟩ := H
          go_wp2
          repeat (go_quiet (fail); try go_wp2)
          go_ret
          exact ⟨by first | rfl | (simp; done) | (simp [*]; done), by repeat (first | exact Drawn0.refl _ | apply Drawn0.step)⟩
  · rw [if_neg c3] at H
    have c3b0 : ((l0.length : Int) == (l1.length : Int)) = false := beq_eq_false_iff_ne.mpr c3
    have c3b1 : ((l0.length : Int) != (l1.length : Int)) = true := bne_iff_ne.mpr c3
    have c3b2 : (l0.length == l1.length) = false := by first | simpa using c3 | (simp at c3 ⊢; omega)
    obtain rfl := Option.some.inj H
    simp only [Option.some.injEq, Prod.mk.injEq] at H
    obtain ⟨rfl⟩ := H
    go_enter Try.func99, Try.ntmps99
    go_wp2
    repeat (go_quiet (fail); try go_wp2)
    go_ret
    exact ⟨by first | rfl | (simp; done) | (simp [*]; done), by repeat (first | exact Drawn0.refl _ | apply Drawn0.step)⟩
def laws_eqIntSS.l0 : Nat → List (List Int) → List (List Int) → Int → Option (Bool)
  | 0, _, _, _ => none
  | k + 1, x0, x1, x5 => if x5 < (x0.length : Int) then (if 0 ≤ x5 then (if x5 < (x1.length : Int) then ((laws_eqIntS.f k (rd_L2 x0 x5) (rd_L2 x1 x5)).bind fun t148 => (if t148 = true then (laws_eqIntSS.l0 k x0 x1 (wrap64 (x5 + 1))) else (some false))) else (none)) else (none)) else (some true)
def laws_eqIntSS.f (k : Nat) (l0 : List (List Int)) (l1 : List (List Int)) : Option (Bool) := if (l0.length : Int) = (l1.length : Int) then (laws_eqIntSS.l0 k l0 l1 0) else (some false)
theorem laws_eqIntSS.mono_l : ∀ k, (∀ y0 y1 y2, LeO (laws_eqIntSS.l0 k y0 y1 y2) (laws_eqIntSS.l0 (k + 1) y0 y1 y2))
  | 0 => fun _ _ _ r h => by simp [laws_eqIntSS.l0] at h
  | k + 1 => by
    have ih0 := laws_eqIntSS.mono_l k
    · intro y0 y1 y2
      unfold laws_eqIntSS.l0
      repeat' first
      | (with_reducible exact ih0 _ _ _)
      | (with_reducible exact laws_eqIntS.mono _ _ _)
      | (with_reducible exact LeO.refl _)
      | (with_reducible exact LeO.none _)
      | (with_reducible refine LeO.ite ?_ ?_)
      | (with_reducible refine LeO.bind ?_ (fun _ => ?_))
      | exact ih0 _ _ _
      | exact laws_eqIntS.mono _ _ _
      | exact LeO.none _
      | refine LeO.ite ?_ ?_
      | refine LeO.bind ?_ (fun _ => ?_)
theorem laws_eqIntSS.mono : ∀ a0 a1 k, LeO (laws_eqIntSS.f k a0 a1) (laws_eqIntSS.f (k + 1) a0 a1) := by
  intro a0 a1 k
  have ih0 := laws_eqIntSS.mono_l k
  unfold laws_eqIntSS.f
  repeat' first
      | (with_reducible exact ih0 _ _ _)
      | (with_reducible exact laws_eqIntS.mono _ _ _)
      | (with_reducible exact LeO.refl _)
      | (with_reducible exact LeO.none _)
      | (with_reducible refine LeO.ite ?_ ?_)
      | (with_reducible refine LeO.bind ?_ (fun _ => ?_))
      | exact ih0 _ _ _
      | exact laws_eqIntS.mono _ _ _
      | exact LeO.none _
      | refine LeO.ite ?_ ?_
      | refine LeO.bind ?_ (fun _ => ?_)
set_option maxHeartbeats 8000000 in
set_option maxRecDepth 100000 in
theorem laws_eqIntSS.calls (k : Nat) (A0 : Option Addr) (c0 : Nat) (l0 : List (List Int)) (A1 : Option Addr) (c1 : Nat) (l1 : List (List Int)) (r : Bool) (w : World) (hr0 : Kd.C (Kd.slice 3 (Kd.int .i64)) w A0 l0.length l0) (hc0 : l0.length ≤ c0) (hr1 : Kd.C (Kd.slice 3 (Kd.int .i64)) w A1 l1.length l1) (hc1 : l1.length ≤ c1) (h : laws_eqIntSS.f k l0 l1 = some r) :
    Calls Try.prog 60 #[.slice A0 l0.length c0, .slice A1 l1.length c1] w fun e w' => e = .returned (.bool r) ∧ Drawn0 w w' := by
  have HR0 := Aside0.mk hr0
  have HC0 := Aside0.mk hc0
  clear hr0 hc0
  have HR1 := Aside0.mk hr1
  have HC1 := Aside0.mk hc1
  clear hr1 hc1
  have H : (if (l0.length : Int) = (l1.length : Int) then (laws_eqIntSS.l0 k l0 l1 0) else (some false)) = some r := h
  clear h
  by_cases c3 : (l0.length : Int) = (l1.length : Int)
  · rw [if_pos c3] at H
    have c3b0 : ((l0.length : Int) == (l1.length : Int)) = true := beq_iff_eq.mpr c3
    have c3b1 : ((l0.length : Int) != (l1.length : Int)) = false := bne_eq_false_iff_eq.mpr c3
    have c3b2 : (l0.length == l1.length) = true := by first | simpa using c3 | (simp at c3 ⊢; omega)
    clear c3
    have H' := Aside0.mk H
    clear H
    go_enter Try.func60, Try.ntmps60
    go_wp2
    repeat (go_quiet (fail); try go_wp2)
    go_loopg [5] k (fun kq v5 w' => ∃ (x5_1 : Int), v5 = .int .i64 x5_1 ∧ Aside0 (laws_eqIntSS.l0 kq l0 l1 x5_1 = some r) ∧ Aside0 (kq ≤ k) ∧ Drawn0 w w')
    case atStart => exact ⟨(0), (by first | rfl | (simp; done) | (simp [*]; done)), H', ⟨Nat.le_refl _⟩, by repeat (first | exact Drawn0.refl _ | apply Drawn0.step)⟩
    case round =>
      clear H'
      try clear c1
      try clear p2
      try clear c3
      try clear c3b0
      try clear c3b1
      try clear c3b2
      obtain ⟨x5_1, rfl, HA, HK1, ⟨m1, rfl⟩⟩ := hrel
      cases gk with
      | zero => exact absurd HA.out (by simp [laws_eqIntSS.l0])
      | succ k1 =>
        have H := HA.out
        clear HA
        simp only [laws_eqIntSS.l0] at H
        by_cases c4 : x5_1 < (l0.length : Int)
        · rw [if_pos c4] at H
          have c4b0 : decide (x5_1 < (l0.length : Int)) = true := decide_eq_true c4
          clear c4
          by_cases c5 : 0 ≤ x5_1
          · rw [if_pos c5] at H
            have c5b0 : decide (0 ≤ x5_1) = true := decide_eq_true c5
            clear c5
            by_cases c6 : x5_1 < (l1.length : Int)
            · rw [if_pos c6] at H
              have c6b0 : decide (x5_1 < (l1.length : Int)) = true := decide_eq_true c6
              clear c6
              replace H := Option.bind_eq_some_iff.mp H
              obtain ⟨t148, A70, H⟩ := H
              replace H : (if t148 = true then (laws_eqIntSS.l0 k1 l0 l1 (wrap64 (x5_1 + 1))) else (some false)) = some r := H
              have A7 := Aside0.mk A70
              clear A70
              by_cases c8 : t148 = true
              · subst c8
                have H1 : (laws_eqIntSS.l0 k1 l0 l1 (wrap64 (x5_1 + 1))) = some r := by rw [if_pos rfl] at H; exact H
                clear H
                have H := H1
                clear H1
                have H' := Aside0.mk H
                clear H
                have p146 : 0 ≤ (x5_1 : Int) := of_decide_eq_true (by first | (with_reducible assumption) | assumption)
                have q146 : x5_1 < (l0.length : Int) := of_decide_eq_true (by first | (with_reducible assumption) | assumption)
                obtain ⟨ad146, A146_0, c146_0, e146, hx146_0, hl146_0, hi146_0⟩ := at_L2 HR0.out x5_1 p146 q146
                cases e146
                have HR146_0 := Aside0.mk hi146_0
                have HC146_0 := Aside0.mk hl146_0
                clear hi146_0 hl146_0
                replace p146 := eq_true p146
                replace q146 := eq_true q146
                have p147 : 0 ≤ (x5_1 : Int) := of_decide_eq_true (by first | (with_reducible assumption) | assumption)
                have q147 : x5_1 < (l1.length : Int) := of_decide_eq_true (by first | (with_reducible assumption) | assumption)
                obtain ⟨ad147, A147_0, c147_0, e147, hx147_0, hl147_0, hi147_0⟩ := at_L2 HR1.out x5_1 p147 q147
                cases e147
                have HR147_0 := Aside0.mk hi147_0
                have HC147_0 := Aside0.mk hl147_0
                clear hi147_0 hl147_0
                replace p147 := eq_true p147
                replace q147 := eq_true q147
                go_wp2_with (first | (go_at_call 99; (with_reducible refine (laws_eqIntS.calls k1 _ _ (rd_L2 l0 x5_1) _ _ (rd_L2 l1 x5_1) true _ ?side1 ?side2 ?side3 ?side4 A7.out).mono ?_); (case side1 => repeat (first | exact HR146_0.out | (with_reducible refine Kd.C_alloc ?_ _) | (with_reducible refine Kd.C_drewN ?_ _) | (with_reducible refine Kd.C_drew ?_))); (case side2 => exact HC146_0.out); (case side3 => repeat (first | exact HR147_0.out | (with_reducible refine Kd.C_alloc ?_ _) | (with_reducible refine Kd.C_drewN ?_ _) | (with_reducible refine Kd.C_drew ?_))); (case side4 => exact HC147_0.out); rintro e w' ⟨rfl, ⟨nd, rfl⟩⟩; (try first | exact ⟨rfl, _, World.drewN_drewN _ _ _⟩ | exact ⟨rfl, _, Eq.trans (World.drewN_drewN _ _ _) (congrArg (World.drewN _) (Nat.add_assoc _ _ _))⟩)))
                repeat (go_quiet (first | (go_at_call 99; (with_reducible refine (laws_eqIntS.calls k1 _ _ (rd_L2 l0 x5_1) _ _ (rd_L2 l1 x5_1) true _ ?side1 ?side2 ?side3 ?side4 A7.out).mono ?_); (case side1 => repeat (first | exact HR146_0.out | (with_reducible refine Kd.C_alloc ?_ _) | (with_reducible refine Kd.C_drewN ?_ _) | (with_reducible refine Kd.C_drew ?_))); (case side2 => exact HC146_0.out); (case side3 => repeat (first | exact HR147_0.out | (with_reducible refine Kd.C_alloc ?_ _) | (with_reducible refine Kd.C_drewN ?_ _) | (with_reducible refine Kd.C_drew ?_))); (case side4 => exact HC147_0.out); rintro e w' ⟨rfl, ⟨nd, rfl⟩⟩; (try first | exact ⟨rfl, _, World.drewN_drewN _ _ _⟩ | exact ⟨rfl, _, Eq.trans (World.drewN_drewN _ _ _) (congrArg (World.drewN _) (Nat.add_assoc _ _ _))⟩))); try go_wp2_with (first | (go_at_call 99; (with_reducible refine (laws_eqIntS.calls k1 _ _ (rd_L2 l0 x5_1) _ _ (rd_L2 l1 x5_1) true _ ?side1 ?side2 ?side3 ?side4 A7.out).mono ?_); (case side1 => repeat (first | exact HR146_0.out | (with_reducible refine Kd.C_alloc ?_ _) | (with_reducible refine Kd.C_drewN ?_ _) | (with_reducible refine Kd.C_drew ?_))); (case side2 => exact HC146_0.out); (case side3 => repeat (first | exact HR147_0.out | (with_reducible refine Kd.C_alloc ?_ _) | (with_reducible refine Kd.C_drewN ?_ _) | (with_reducible refine Kd.C_drew ?_))); (case side4 => exact HC147_0.out); rintro e w' ⟨rfl, ⟨nd, rfl⟩⟩; (try first | exact ⟨rfl, _, World.drewN_drewN _ _ _⟩ | exact ⟨rfl, _, Eq.trans (World.drewN_drewN _ _ _) (congrArg (World.drewN _) (Nat.add_assoc _ _ _))⟩))))
                go_roundg k1
                case measure => have := HK1.out; omega
                case rel => exact ⟨(wrap64 (x5_1 + 1)), (by first | rfl | (simp; done) | (simp [*]; done)), H', ⟨by have := HK1.out; omega⟩, by repeat (first | exact Drawn0.refl _ | apply Drawn0.step)⟩
              · replace c8 := Bool.eq_false_iff.mpr c8
                subst c8
                have H1 : (some false) = some r := by rw [if_neg (show ¬ (false = true) by decide)] at H; exact H
                clear H
                have H := H1
                clear H1
                obtain rfl := Option.some.inj H
                simp only [Option.some.injEq, Prod.mk.injEq] at H
                obtain ⟨rfl⟩ := H
                have p146 : 0 ≤ (x5_1 : Int) := of_decide_eq_true (by first | (with_reducible assumption) | assumption)
                have q146 : x5_1 < (l0.length : Int) := of_decide_eq_true (by first | (with_reducible assumption) | assumption)
                obtain ⟨ad146, A146_0, c146_0, e146, hx146_0, hl146_0, hi146_0⟩ := at_L2 HR0.out x5_1 p146 q146
                cases e146
                have HR146_0 := Aside0.mk hi146_0
                have HC146_0 := Aside0.mk hl146_0
                clear hi146_0 hl146_0
                replace p146 := eq_true p146
                replace q146 := eq_true q146
                have p147 : 0 ≤ (x5_1 : Int) := of_decide_eq_true (by first | (with_reducible assumption) | assumption)
                have q147 : x5_1 < (l1.length : Int) := of_decide_eq_true (by first | (with_reducible assumption) | assumption)
                obtain ⟨ad147, A147_0, c147_0, e147, hx147_0, hl147_0, hi147_0⟩ := at_L2 HR1.out x5_1 p147 q147
                cases e147
                have HR147_0 := Aside0.mk hi147_0
                have HC147_0 := Aside0.mk hl147_0
                clear hi147_0 hl147_0
                replace p147 := eq_true p147
                replace q147 := eq_true q147
                go_wp2_with (first | (go_at_call 99; (with_reducible refine (laws_eqIntS.calls k1 _ _ (rd_L2 l0 x5_1) _ _ (rd_L2 l1 x5_1) false _ ?side1 ?side2 ?side3 ?side4 A7.out).mono ?_); (case side1 => repeat (first | exact HR146_0.out | (with_reducible refine Kd.C_alloc ?_ _) | (with_reducible refine Kd.C_drewN ?_ _) | (with_reducible refine Kd.C_drew ?_))); (case side2 => exact HC146_0.out); (case side3 => repeat (first | exact HR147_0.out | (with_reducible refine Kd.C_alloc ?_ _) | (with_reducible refine Kd.C_drewN ?_ _) | (with_reducible refine Kd.C_drew ?_))); (case side4 => exact HC147_0.out); rintro e w' ⟨rfl, ⟨nd, rfl⟩⟩; (try first | exact ⟨rfl, _, World.drewN_drewN _ _ _⟩ | exact ⟨rfl, _, Eq.trans (World.drewN_drewN _ _ _) (congrArg (World.drewN _) (Nat.add_assoc _ _ _))⟩)))
                repeat (go_quiet (first | (go_at_call 99; (with_reducible refine (laws_eqIntS.calls k1 _ _ (rd_L2 l0 x5_1) _ _ (rd_L2 l1 x5_1) false _ ?side1 ?side2 ?side3 ?side4 A7.out).mono ?_); (case side1 => repeat (first | exact HR146_0.out | (with_reducible refine Kd.C_alloc ?_ _) | (with_reducible refine Kd.C_drewN ?_ _) | (with_reducible refine Kd.C_drew ?_))); (case side2 => exact HC146_0.out); (case side3 => repeat (first | exact HR147_0.out | (with_reducible refine Kd.C_alloc ?_ _) | (with_reducible refine Kd.C_drewN ?_ _) | (with_reducible refine Kd.C_drew ?_))); (case side4 => exact HC147_0.out); rintro e w' ⟨rfl, ⟨nd, rfl⟩⟩; (try first | exact ⟨rfl, _, World.drewN_drewN _ _ _⟩ | exact ⟨rfl, _, Eq.trans (World.drewN_drewN _ _ _) (congrArg (World.drewN _) (Nat.add_assoc _ _ _))⟩))); try go_wp2_with (first | (go_at_call 99; (with_reducible refine (laws_eqIntS.calls k1 _ _ (rd_L2 l0 x5_1) _ _ (rd_L2 l1 x5_1) false _ ?side1 ?side2 ?side3 ?side4 A7.out).mono ?_); (case side1 => repeat (first | exact HR146_0.out | (with_reducible refine Kd.C_alloc ?_ _) | (with_reducible refine Kd.C_drewN ?_ _) | (with_reducible refine Kd.C_drew ?_))); (case side2 => exact HC146_0.out); (case side3 => repeat (first | exact HR147_0.out | (with_reducible refine Kd.C_alloc ?_ _) | (with_reducible refine Kd.C_drewN ?_ _) | (with_reducible refine Kd.C_drew ?_))); (case side4 => exact HC147_0.out); rintro e w' ⟨rfl, ⟨nd, rfl⟩⟩; (try first | exact ⟨rfl, _, World.drewN_drewN _ _ _⟩ | exact ⟨rfl, _, Eq.trans (World.drewN_drewN _ _ _) (congrArg (World.drewN _) (Nat.add_assoc _ _ _))⟩))))
                go_ret
                exact ⟨by first | rfl | (simp; done) | (simp [*]; done), by repeat (first | exact Drawn0.refl _ | apply Drawn0.step)⟩
            · rw [if_neg c6] at H
              exact absurd H (by simp)
          · rw [if_neg c5] at H
            exact absurd H (by simp)
        · rw [if_neg c4] at H
          have c4b0 : decide (x5_1 < (l0.length : Int)) = false := decide_eq_false c4
          clear c4
          obtain rfl := Option.some.inj H
          simp only [Option.some.injEq, Prod.mk.injEq] at H
          obtain ⟨rfl⟩ := H
          go_wp2
          repeat (go_quiet (fail); try go_wp2)
          go_ret
          exact ⟨by first | rfl | (simp; done) | (simp [*]; done), by repeat (first | exact Drawn0.refl _ | apply Drawn0.step)⟩
  · rw [if_neg c3] at H
    have c3b0 : ((l0.length : Int) == (l1.length : Int)) = false := beq_eq_false_iff_ne.mpr c3
    have c3b1 : ((l0.length : Int) != (l1.length : Int)) = true := bne_iff_ne.mpr c3
    have c3b2 : (l0.length == l1.length) = false := by first | simpa using c3 | (simp at c3 ⊢; omega)
    obtain rfl := Option.some.inj H
    simp only [Option.some.injEq, Prod.mk.injEq] at H
    obtain ⟨rfl⟩ := H
    go_enter Try.func60, Try.ntmps60
    go_wp2
    repeat (go_quiet (fail); try go_wp2)
    go_ret
    exact ⟨by first | rfl | (simp; done) | (simp [*]; done), by repeat (first | exact Drawn0.refl _ | apply Drawn0.step)⟩
def laws_eqDfa.f (k : Nat) (l0_0 : List Bool) (l0_1 : List (List Int)) (l1_0 : List Bool) (l1_1 : List (List Int)) : Option (Bool) := (laws_eqBoolS.f k l0_0 l1_0).bind fun t151 => (if t151 = true then ((laws_eqIntSS.f k l0_1 l1_1).bind fun t152 => (if t152 = true then (some true) else (some false))) else (some false))
theorem laws_eqDfa.mono : ∀ a0 a1 a2 a3 k, LeO (laws_eqDfa.f k a0 a1 a2 a3) (laws_eqDfa.f (k + 1) a0 a1 a2 a3) := by
 intro a0 a1 a2 a3 k
 unfold laws_eqDfa.f
 repeat' first
   | (with_reducible exact laws_eqBoolS.mono _ _ _)
   | (with_reducible exact laws_eqIntSS.mono _ _ _)
   | (with_reducible exact LeO.refl _)
   | (with_reducible exact LeO.none _)
   | (with_reducible refine LeO.ite ?_ ?_)
   | (with_reducible refine LeO.bind ?_ (fun _ => ?_))
   | exact laws_eqBoolS.mono _ _ _
   | exact laws_eqIntSS.mono _ _ _
   | exact LeO.none _
   | refine LeO.ite ?_ ?_
   | refine LeO.bind ?_ (fun _ => ?_)
set_option maxHeartbeats 8000000 in
set_option maxRecDepth 100000 in
theorem laws_eqDfa.calls (k : Nat) (A0_0 : Option Addr) (c0_0 : Nat) (l0_0 : List Bool) (A0_1 : Option Addr) (c0_1 : Nat) (l0_1 : List (List Int)) (A1_0 : Option Addr) (c1_0 : Nat) (l1_0 : List Bool) (A1_1 : Option Addr) (c1_1 : Nat) (l1_1 : List (List Int)) (r : Bool) (w : World) (hr0_0 : Kd.C Kd.bool w A0_0 l0_0.length l0_0) (hc0_0 : l0_0.length ≤ c0_0) (hr0_1 : Kd.C (Kd.slice 3 (Kd.int .i64)) w A0_1 l0_1.length l0_1) (hc0_1 : l0_1.length ≤ c0_1) (hr1_0 : Kd.C Kd.bool w A1_0 l1_0.length l1_0) (hc1_0 : l1_0.length ≤ c1_0) (hr1_1 : Kd.C (Kd.slice 3 (Kd.int .i64)) w A1_1 l1_1.length l1_1) (hc1_1 : l1_1.length ≤ c1_1) (h : laws_eqDfa.f k l0_0 l0_1 l1_0 l1_1 = some r) :
  Calls Try.prog 19 #[.agg #[.slice A0_0 l0_0.length c0_0, .slice A0_1 l0_1.length c0_1], .agg #[.slice A1_0 l1_0.length c1_0, .slice A1_1 l1_1.length c1_1]] w fun e w' => e = .returned (.bool r) ∧ Below w.heap.size w w' := by
 have hu28 := Try.underlying28
 have HR0_0 := Aside0.mk hr0_0
 have HC0_0 := Aside0.mk hc0_0
 clear hr0_0 hc0_0
 have HR0_1 := Aside0.mk hr0_1
 have HC0_1 := Aside0.mk hc0_1
 clear hr0_1 hc0_1
 have HR1_0 := Aside0.mk hr1_0
 have HC1_0 := Aside0.mk hc1_0
 clear hr1_0 hc1_0
 have HR1_1 := Aside0.mk hr1_1
 have HC1_1 := Aside0.mk hc1_1
 clear hr1_1 hc1_1
 have HB := Aside0.mk (Below.refl w.heap.size w)
 have H : ((laws_eqBoolS.f k l0_0 l1_0).bind fun t151 => (if t151 = true then ((laws_eqIntSS.f k l0_1 l1_1).bind fun t152 => (if t152 = true then (some true) else (some false))) else (some false))) = some r := h
 clear h
 replace H := Option.bind_eq_some_iff.mp H
 obtain ⟨t151, A30, H⟩ := H
 replace H : (if t151 = true then ((laws_eqIntSS.f k l0_1 l1_1).bind fun t152 => (if t152 = true then (some true) else (some false))) else (some false)) = some r := H
 have A3 := Aside0.mk A30
 clear A30
 by_cases c4 : t151 = true
 ·subst c4
  have H1 : ((laws_eqIntSS.f k l0_1 l1_1).bind fun t152 => (if t152 = true then (some true) else (some false))) = some r := by rw [if_pos rfl] at H; exact H
  clear H
  have H := H1
  clear H1
  replace H := Option.bind_eq_some_iff.mp H
  obtain ⟨t152, A50, H⟩ := H
  replace H : (if t152 = true then (some true) else (some false)) = some r := H
  have A5 := Aside0.mk A50
  clear A50
  by_cases c6 : t152 = true
  ·subst c6
   have H1 : (some true) = some r := by rw [if_pos rfl] at H; exact H
   clear H
   have H := H1
   clear H1
   obtain rfl := Option.some.inj H
   simp only [Option.some.injEq, Prod.mk.injEq] at H
   obtain ⟨rfl⟩ := H
   go_enter Try.func19, Try.ntmps19
   go_wp2_with (first | ((with_reducible refine gate_dst (N := 2) rfl ?_); refine box_event ?hg (N := 2) ?hd (cs := #[.slice A0_0 l0_0.length c0_0, .slice A0_1 l0_1.length c0_1]) (t := 28) ?hr ?_; (case hd => rfl); (case hg => rfl); (case hr => first | (go_simp; done) | (go_simp; rfl)); intro gb149 hg w7 hbox hb; have n0_ := Aside0.mk (below_step (by repeat (first | (with_reducible first | exact HB.out | apply below_alloc | apply pw_below_drewN | apply below_drew1) | exact HB.out)) hb); have n1_ := Aside0.mk (hbox); have n2_ := Aside0.mk ((by rw [hg]; exact (below_size (by repeat (first | (with_reducible first | exact HB.out | apply below_alloc | apply pw_below_drewN | apply below_drew1) | exact HB.out))) : w.heap.size ≤ gb149)); have n3_ := Aside0.mk ((by rw [hg]; exact (below_size (by repeat (first | (with_reducible first | exact HB.out | apply below_alloc | apply pw_below_drewN | apply below_drew1) | exact HB.out))) : w.heap.size ≤ gb149)); clear HB; have HB := n0_; have BK149 := n1_; have GW149 := n2_; have GE149 := n3_; clear n0_ n1_ n2_ n3_; clear hb hbox hg) | ((with_reducible refine gate_dst (N := 3) rfl ?_); refine box_event ?hg (N := 3) ?hd (cs := #[.slice A1_0 l1_0.length c1_0, .slice A1_1 l1_1.length c1_1]) (t := 28) ?hr ?_; (case hd => rfl); (case hg => rfl); (case hr => first | (go_simp; done) | (go_simp; rfl)); intro gb150 hg w8 hbox hb; have n0_ := Aside0.mk (blk_below (g := gb149) (o := .cells #[.slice A0_0 l0_0.length c0_0, .slice A0_1 l0_1.length c0_1] 28 (0, 0)) (by (with_reducible repeat (first | refine blk_drewN ?_ _ | refine blk_drew ?_ | refine blk_alloc ?_ _)); exact BK149.out) hb); have n1_ := Aside0.mk (below_step (by repeat (first | (with_reducible first | exact HB.out | apply below_alloc | apply pw_below_drewN | apply below_drew1 | refine below_set ?_ GE149.out) | exact HB.out)) hb); have n2_ := Aside0.mk (hbox); have n3_ := Aside0.mk ((by rw [hg]; exact (below_size (by repeat (first | (with_reducible first | exact HB.out | apply below_alloc | apply pw_below_drewN | apply below_drew1 | refine below_set ?_ GE149.out) | exact HB.out))) : w.heap.size ≤ gb150)); have n4_ := Aside0.mk ((by rw [hg]; exact (below_size (by repeat (first | (with_reducible first | exact HB.out | apply below_alloc | apply pw_below_drewN | apply below_drew1 | refine below_set ?_ GE149.out) | exact HB.out))) : w.heap.size ≤ gb150)); have n5_ := Aside0.mk ((by rw [hg]; exact Nat.ne_of_lt (blk_lt (g := gb149) (o := .cells #[.slice A0_0 l0_0.length c0_0, .slice A0_1 l0_1.length c0_1] 28 (0, 0)) (by (with_reducible repeat (first | refine blk_drewN ?_ _ | refine blk_drew ?_ | refine blk_alloc ?_ _)); exact BK149.out)) : gb149 ≠ gb150)); have n6_ := Aside0.mk ((by rw [hg]; exact Nat.ne_of_gt (blk_lt (g := gb149) (o := .cells #[.slice A0_0 l0_0.length c0_0, .slice A0_1 l0_1.length c0_1] 28 (0, 0)) (by (with_reducible repeat (first | refine blk_drewN ?_ _ | refine blk_drew ?_ | refine blk_alloc ?_ _)); exact BK149.out)) : gb150 ≠ gb149)); clear BK149; clear HB; have BK149 := n0_; have HB := n1_; have BK150 := n2_; have GW150 := n3_; have GE150 := n4_; have NB149_150 := n5_; have NB150_149 := n6_; clear n0_ n1_ n2_ n3_ n4_ n5_ n6_; clear hb hbox hg; have hnb9 := NB149_150.out; have hnc9 := NB150_149.out; have hcz10_0 : w8.cell? ⟨gb149, 0, none⟩ = some (.slice A0_0 l0_0.length c0_0) := (blk_cell BK149.out 0).trans rfl; have hcz10_1 : w8.cell? ⟨gb149, 1, none⟩ = some (.slice A0_1 l0_1.length c0_1) := (blk_cell BK149.out 1).trans rfl; have hfz10_0 := blk_frozen BK149.out 0; have hfz10_1 := blk_frozen BK149.out 1; have hcz11_0 : w8.cell? ⟨gb150, 0, none⟩ = some (.slice A1_0 l1_0.length c1_0) := (blk_cell BK150.out 0).trans rfl; have hcz11_1 : w8.cell? ⟨gb150, 1, none⟩ = some (.slice A1_1 l1_1.length c1_1) := (blk_cell BK150.out 1).trans rfl; have hfz11_0 := blk_frozen BK150.out 0; have hfz11_1 := blk_frozen BK150.out 1) | ((with_reducible refine gate_callee (f := 38) rfl ?_); refine goesL_ (some 9) rfl rfl Try.func38 (by kernel_rfl) rfl #[.slice A0_0 l0_0.length c0_0, .slice A1_0 l1_0.length c1_0] rfl (by (try simp only [List.map_toArray, List.map_cons, List.map_nil]); first | done | rfl | (simp only [List.length_drop, List.length_take]; rfl)) ?_; (with_reducible refine (laws_eqBoolS.calls k _ _ l0_0 _ _ l1_0 true _ ?side1 ?side2 ?side3 ?side4 A3.out).mono ?_); (case side1 => repeat (first | exact (Kd.C_below HR0_0.out HB.out) | (with_reducible refine Kd.C_alloc ?_ _) | (with_reducible refine Kd.C_drewN ?_ _) | (with_reducible refine Kd.C_drew ?_))); (case side2 => exact HC0_0.out); (case side3 => repeat (first | exact (Kd.C_below HR1_0.out HB.out) | (with_reducible refine Kd.C_alloc ?_ _) | (with_reducible refine Kd.C_drewN ?_ _) | (with_reducible refine Kd.C_drew ?_))); (case side4 => exact HC1_0.out); rintro e w' ⟨rfl, ⟨nd, rfl⟩⟩; refine ⟨_, rfl, ?_⟩) | ((with_reducible refine gate_callee (f := 60) rfl ?_); refine goesL_ (some 15) rfl rfl Try.func60 (by kernel_rfl) rfl #[.slice A0_1 l0_1.length c0_1, .slice A1_1 l1_1.length c1_1] rfl (by (try simp only [List.map_toArray, List.map_cons, List.map_nil]); first | done | rfl | (simp only [List.length_drop, List.length_take]; rfl)) ?_; (with_reducible refine (laws_eqIntSS.calls k _ _ l0_1 _ _ l1_1 true _ ?side1 ?side2 ?side3 ?side4 A5.out).mono ?_); (case side1 => repeat (first | exact (Kd.C_below HR0_1.out (by repeat (first | (with_reducible first | exact HB.out | apply below_alloc | apply pw_below_drewN | apply below_drew1 | refine below_set ?_ GE149.out | refine below_set ?_ GE150.out) | exact HB.out))) | (with_reducible refine Kd.C_alloc ?_ _) | (with_reducible refine Kd.C_drewN ?_ _) | (with_reducible refine Kd.C_drew ?_))); (case side2 => exact HC0_1.out); (case side3 => repeat (first | exact (Kd.C_below HR1_1.out (by repeat (first | (with_reducible first | exact HB.out | apply below_alloc | apply pw_below_drewN | apply below_drew1 | refine below_set ?_ GE149.out | refine below_set ?_ GE150.out) | exact HB.out))) | (with_reducible refine Kd.C_alloc ?_ _) | (with_reducible refine Kd.C_drewN ?_ _) | (with_reducible refine Kd.C_drew ?_))); (case side4 => exact HC1_1.out); rintro e w' ⟨rfl, ⟨nd, rfl⟩⟩; refine ⟨_, rfl, ?_⟩))
   go_ret
   exact ⟨by first | rfl | (simp [errW_none, errW_some] <;> rfl) | (simp [*, errW_none, errW_some] <;> rfl), by repeat (first | (with_reducible first | exact HB.out | apply below_alloc | apply pw_below_drewN | apply below_drew1 | refine below_set ?_ GE149.out | refine below_set ?_ GE150.out) | exact HB.out)⟩
  ·replace c6 := Bool.eq_false_iff.mpr c6
   subst c6
   have H1 : (some false) = some r := by rw [if_neg (show ¬ (false = true) by decide)] at H; exact H
   clear H
   have H := H1
   clear H1
   obtain rfl := Option.some.inj H
   simp only [Option.some.injEq, Prod.mk.injEq] at H
   obtain ⟨rfl⟩ := H
   go_enter Try.func19, Try.ntmps19
   go_wp2_with (first | ((with_reducible refine gate_dst (N := 2) rfl ?_); refine box_event ?hg (N := 2) ?hd (cs := #[.slice A0_0 l0_0.length c0_0, .slice A0_1 l0_1.length c0_1]) (t := 28) ?hr ?_; (case hd => rfl); (case hg => rfl); (case hr => first | (go_simp; done) | (go_simp; rfl)); intro gb149 hg w12 hbox hb; have n0_ := Aside0.mk (below_step (by repeat (first | (with_reducible first | exact HB.out | apply below_alloc | apply pw_below_drewN | apply below_drew1) | exact HB.out)) hb); have n1_ := Aside0.mk (hbox); have n2_ := Aside0.mk ((by rw [hg]; exact (below_size (by repeat (first | (with_reducible first | exact HB.out | apply below_alloc | apply pw_below_drewN | apply below_drew1) | exact HB.out))) : w.heap.size ≤ gb149)); have n3_ := Aside0.mk ((by rw [hg]; exact (below_size (by repeat (first | (with_reducible first | exact HB.out | apply below_alloc | apply pw_below_drewN | apply below_drew1) | exact HB.out))) : w.heap.size ≤ gb149)); clear HB; have HB := n0_; have BK149 := n1_; have GW149 := n2_; have GE149 := n3_; clear n0_ n1_ n2_ n3_; clear hb hbox hg) | ((with_reducible refine gate_dst (N := 3) rfl ?_); refine box_event ?hg (N := 3) ?hd (cs := #[.slice A1_0 l1_0.length c1_0, .slice A1_1 l1_1.length c1_1]) (t := 28) ?hr ?_; (case hd => rfl); (case hg => rfl); (case hr => first | (go_simp; done) | (go_simp; rfl)); intro gb150 hg w13 hbox hb; have n0_ := Aside0.mk (blk_below (g := gb149) (o := .cells #[.slice A0_0 l0_0.length c0_0, .slice A0_1 l0_1.length c0_1] 28 (0, 0)) (by (with_reducible repeat (first | refine blk_drewN ?_ _ | refine blk_drew ?_ | refine blk_alloc ?_ _)); exact BK149.out) hb); have n1_ := Aside0.mk (below_step (by repeat (first | (with_reducible first | exact HB.out | apply below_alloc | apply pw_below_drewN | apply below_drew1 | refine below_set ?_ GE149.out) | exact HB.out)) hb); have n2_ := Aside0.mk (hbox); have n3_ := Aside0.mk ((by rw [hg]; exact (below_size (by repeat (first | (with_reducible first | exact HB.out | apply below_alloc | apply pw_below_drewN | apply below_drew1 | refine below_set ?_ GE149.out) | exact HB.out))) : w.heap.size ≤ gb150)); have n4_ := Aside0.mk ((by rw [hg]; exact (below_size (by repeat (first | (with_reducible first | exact HB.out | apply below_alloc | apply pw_below_drewN | apply below_drew1 | refine below_set ?_ GE149.out) | exact HB.out))) : w.heap.size ≤ gb150)); have n5_ := Aside0.mk ((by rw [hg]; exact Nat.ne_of_lt (blk_lt (g := gb149) (o := .cells #[.slice A0_0 l0_0.length c0_0, .slice A0_1 l0_1.length c0_1] 28 (0, 0)) (by (with_reducible repeat (first | refine blk_drewN ?_ _ | refine blk_drew ?_ | refine blk_alloc ?_ _)); exact BK149.out)) : gb149 ≠ gb150)); have n6_ := Aside0.mk ((by rw [hg]; exact Nat.ne_of_gt (blk_lt (g := gb149) (o := .cells #[.slice A0_0 l0_0.length c0_0, .slice A0_1 l0_1.length c0_1] 28 (0, 0)) (by (with_reducible repeat (first | refine blk_drewN ?_ _ | refine blk_drew ?_ | refine blk_alloc ?_ _)); exact BK149.out)) : gb150 ≠ gb149)); clear BK149; clear HB; have BK149 := n0_; have HB := n1_; have BK150 := n2_; have GW150 := n3_; have GE150 := n4_; have NB149_150 := n5_; have NB150_149 := n6_; clear n0_ n1_ n2_ n3_ n4_ n5_ n6_; clear hb hbox hg; have hnb14 := NB149_150.out; have hnc14 := NB150_149.out; have hcz15_0 : w13.cell? ⟨gb149, 0, none⟩ = some (.slice A0_0 l0_0.length c0_0) := (blk_cell BK149.out 0).trans rfl; have hcz15_1 : w13.cell? ⟨gb149, 1, none⟩ = some (.slice A0_1 l0_1.length c0_1) := (blk_cell BK149.out 1).trans rfl; have hfz15_0 := blk_frozen BK149.out 0; have hfz15_1 := blk_frozen BK149.out 1; have hcz16_0 : w13.cell? ⟨gb150, 0, none⟩ = some (.slice A1_0 l1_0.length c1_0) := (blk_cell BK150.out 0).trans rfl; have hcz16_1 : w13.cell? ⟨gb150, 1, none⟩ = some (.slice A1_1 l1_1.length c1_1) := (blk_cell BK150.out 1).trans rfl; have hfz16_0 := blk_frozen BK150.out 0; have hfz16_1 := blk_frozen BK150.out 1) | ((with_reducible refine gate_callee (f := 38) rfl ?_); refine goesL_ (some 9) rfl rfl Try.func38 (by kernel_rfl) rfl #[.slice A0_0 l0_0.length c0_0, .slice A1_0 l1_0.length c1_0] rfl (by (try simp only [List.map_toArray, List.map_cons, List.map_nil]); first | done | rfl | (simp only [List.length_drop, List.length_take]; rfl)) ?_; (with_reducible refine (laws_eqBoolS.calls k _ _ l0_0 _ _ l1_0 true _ ?side1 ?side2 ?side3 ?side4 A3.out).mono ?_); (case side1 => repeat (first | exact (Kd.C_below HR0_0.out HB.out) | (with_reducible refine Kd.C_alloc ?_ _) | (with_reducible refine Kd.C_drewN ?_ _) | (with_reducible refine Kd.C_drew ?_))); (case side2 => exact HC0_0.out); (case side3 => repeat (first | exact (Kd.C_below HR1_0.out HB.out) | (with_reducible refine Kd.C_alloc ?_ _) | (with_reducible refine Kd.C_drewN ?_ _) | (with_reducible refine Kd.C_drew ?_))); (case side4 => exact HC1_0.out); rintro e w' ⟨rfl, ⟨nd, rfl⟩⟩; refine ⟨_, rfl, ?_⟩) | ((with_reducible refine gate_callee (f := 60) rfl ?_); refine goesL_ (some 15) rfl rfl Try.func60 (by kernel_rfl) rfl #[.slice A0_1 l0_1.length c0_1, .slice A1_1 l1_1.length c1_1] rfl (by (try simp only [List.map_toArray, List.map_cons, List.map_nil]); first | done | rfl | (simp only [List.length_drop, List.length_take]; rfl)) ?_; (with_reducible refine (laws_eqIntSS.calls k _ _ l0_1 _ _ l1_1 false _ ?side1 ?side2 ?side3 ?side4 A5.out).mono ?_); (case side1 => repeat (first | exact (Kd.C_below HR0_1.out (by repeat (first | (with_reducible first | exact HB.out | apply below_alloc | apply pw_below_drewN | apply below_drew1 | refine below_set ?_ GE149.out | refine below_set ?_ GE150.out) | exact HB.out))) | (with_reducible refine Kd.C_alloc ?_ _) | (with_reducible refine Kd.C_drewN ?_ _) | (with_reducible refine Kd.C_drew ?_))); (case side2 => exact HC0_1.out); (case side3 => repeat (first | exact (Kd.C_below HR1_1.out (by repeat (first | (with_reducible first | exact HB.out | apply below_alloc | apply pw_below_drewN | apply below_drew1 | refine below_set ?_ GE149.out | refine below_set ?_ GE150.out) | exact HB.out))) | (with_reducible refine Kd.C_alloc ?_ _) | (with_reducible refine Kd.C_drewN ?_ _) | (with_reducible refine Kd.C_drew ?_))); (case side4 => exact HC1_1.out); rintro e w' ⟨rfl, ⟨nd, rfl⟩⟩; refine ⟨_, rfl, ?_⟩))
   go_ret
   exact ⟨by first | rfl | (simp [errW_none, errW_some] <;> rfl) | (simp [*, errW_none, errW_some] <;> rfl), by repeat (first | (with_reducible first | exact HB.out | apply below_alloc | apply pw_below_drewN | apply below_drew1 | refine below_set ?_ GE149.out | refine below_set ?_ GE150.out) | exact HB.out)⟩
 ·replace c4 := Bool.eq_false_iff.mpr c4
  subst c4
  have H1 : (some false) = some r := by rw [if_neg (show ¬ (false = true) by decide)] at H; exact H
  clear H
  have H := H1
  clear H1
  obtain rfl := Option.some.inj H
  simp only [Option.some.injEq, Prod.mk.injEq] at H
  obtain ⟨rfl⟩ := H
  go_enter Try.func19, Try.ntmps19
  go_wp2_with (first | ((with_reducible refine gate_dst (N := 2) rfl ?_); refine box_event ?hg (N := 2) ?hd (cs := #[.slice A0_0 l0_0.length c0_0, .slice A0_1 l0_1.length c0_1]) (t := 28) ?hr ?_; (case hd => rfl); (case hg => rfl); (case hr => first | (go_simp; done) | (go_simp; rfl)); intro gb149 hg w17 hbox hb; have n0_ := Aside0.mk (below_step (by repeat (first | (with_reducible first | exact HB.out | apply below_alloc | apply pw_below_drewN | apply below_drew1) | exact HB.out)) hb); have n1_ := Aside0.mk (hbox); have n2_ := Aside0.mk ((by rw [hg]; exact (below_size (by repeat (first | (with_reducible first | exact HB.out | apply below_alloc | apply pw_below_drewN | apply below_drew1) | exact HB.out))) : w.heap.size ≤ gb149)); have n3_ := Aside0.mk ((by rw [hg]; exact (below_size (by repeat (first | (with_reducible first | exact HB.out | apply below_alloc | apply pw_below_drewN | apply below_drew1) | exact HB.out))) : w.heap.size ≤ gb149)); clear HB; have HB := n0_; have BK149 := n1_; have GW149 := n2_; have GE149 := n3_; clear n0_ n1_ n2_ n3_; clear hb hbox hg) | ((with_reducible refine gate_dst (N := 3) rfl ?_); refine box_event ?hg (N := 3) ?hd (cs := #[.slice A1_0 l1_0.length c1_0, .slice A1_1 l1_1.length c1_1]) (t := 28) ?hr ?_; (case hd => rfl); (case hg => rfl); (case hr => first | (go_simp; done) | (go_simp; rfl)); intro gb150 hg w18 hbox hb; have n0_ := Aside0.mk (blk_below (g := gb149) (o := .cells #[.slice A0_0 l0_0.length c0_0, .slice A0_1 l0_1.length c0_1] 28 (0, 0)) (by (with_reducible repeat (first | refine blk_drewN ?_ _ | refine blk_drew ?_ | refine blk_alloc ?_ _)); exact BK149.out) hb); have n1_ := Aside0.mk (below_step (by repeat (first | (with_reducible first | exact HB.out | apply below_alloc | apply pw_below_drewN | apply below_drew1 | refine below_set ?_ GE149.out) | exact HB.out)) hb); have n2_ := Aside0.mk (hbox); have n3_ := Aside0.mk ((by rw [hg]; exact (below_size (by repeat (first | (with_reducible first | exact HB.out | apply below_alloc | apply pw_below_drewN | apply below_drew1 | refine below_set ?_ GE149.out) | exact HB.out))) : w.heap.size ≤ gb150)); have n4_ := Aside0.mk ((by rw [hg]; exact (below_size (by repeat (first | (with_reducible first | exact HB.out | apply below_alloc | apply pw_below_drewN | apply below_drew1 | refine below_set ?_ GE149.out) | exact HB.out))) : w.heap.size ≤ gb150)); have n5_ := Aside0.mk ((by rw [hg]; exact Nat.ne_of_lt (blk_lt (g := gb149) (o := .cells #[.slice A0_0 l0_0.length c0_0, .slice A0_1 l0_1.length c0_1] 28 (0, 0)) (by (with_reducible repeat (first | refine blk_drewN ?_ _ | refine blk_drew ?_ | refine blk_alloc ?_ _)); exact BK149.out)) : gb149 ≠ gb150)); have n6_ := Aside0.mk ((by rw [hg]; exact Nat.ne_of_gt (blk_lt (g := gb149) (o := .cells #[.slice A0_0 l0_0.length c0_0, .slice A0_1 l0_1.length c0_1] 28 (0, 0)) (by (with_reducible repeat (first | refine blk_drewN ?_ _ | refine blk_drew ?_ | refine blk_alloc ?_ _)); exact BK149.out)) : gb150 ≠ gb149)); clear BK149; clear HB; have BK149 := n0_; have HB := n1_; have BK150 := n2_; have GW150 := n3_; have GE150 := n4_; have NB149_150 := n5_; have NB150_149 := n6_; clear n0_ n1_ n2_ n3_ n4_ n5_ n6_; clear hb hbox hg; have hnb19 := NB149_150.out; have hnc19 := NB150_149.out; have hcz20_0 : w18.cell? ⟨gb149, 0, none⟩ = some (.slice A0_0 l0_0.length c0_0) := (blk_cell BK149.out 0).trans rfl; have hcz20_1 : w18.cell? ⟨gb149, 1, none⟩ = some (.slice A0_1 l0_1.length c0_1) := (blk_cell BK149.out 1).trans rfl; have hfz20_0 := blk_frozen BK149.out 0; have hfz20_1 := blk_frozen BK149.out 1; have hcz21_0 : w18.cell? ⟨gb150, 0, none⟩ = some (.slice A1_0 l1_0.length c1_0) := (blk_cell BK150.out 0).trans rfl; have hcz21_1 : w18.cell? ⟨gb150, 1, none⟩ = some (.slice A1_1 l1_1.length c1_1) := (blk_cell BK150.out 1).trans rfl; have hfz21_0 := blk_frozen BK150.out 0; have hfz21_1 := blk_frozen BK150.out 1) | ((with_reducible refine gate_callee (f := 38) rfl ?_); refine goesL_ (some 9) rfl rfl Try.func38 (by kernel_rfl) rfl #[.slice A0_0 l0_0.length c0_0, .slice A1_0 l1_0.length c1_0] rfl (by (try simp only [List.map_toArray, List.map_cons, List.map_nil]); first | done | rfl | (simp only [List.length_drop, List.length_take]; rfl)) ?_; (with_reducible refine (laws_eqBoolS.calls k _ _ l0_0 _ _ l1_0 false _ ?side1 ?side2 ?side3 ?side4 A3.out).mono ?_); (case side1 => repeat (first | exact (Kd.C_below HR0_0.out HB.out) | (with_reducible refine Kd.C_alloc ?_ _) | (with_reducible refine Kd.C_drewN ?_ _) | (with_reducible refine Kd.C_drew ?_))); (case side2 => exact HC0_0.out); (case side3 => repeat (first | exact (Kd.C_below HR1_0.out HB.out) | (with_reducible refine Kd.C_alloc ?_ _) | (with_reducible refine Kd.C_drewN ?_ _) | (with_reducible refine Kd.C_drew ?_))); (case side4 => exact HC1_0.out); rintro e w' ⟨rfl, ⟨nd, rfl⟩⟩; refine ⟨_, rfl, ?_⟩))
  go_ret
  exact ⟨by first | rfl | (simp [errW_none, errW_some] <;> rfl) | (simp [*, errW_none, errW_some] <;> rfl), by repeat (first | (with_reducible first | exact HB.out | apply below_alloc | apply pw_below_drewN | apply below_drew1 | refine below_set ?_ GE149.out | refine below_set ?_ GE150.out) | exact HB.out)⟩
end Go.Proofs.Ytoknogcefajfiaa.P
end
section
namespace Go.Proofs.Ytoknogcefajfiaa.Pl
open Go.RowKit Go.Proofs.Ytoknogcefajfiaa.P Go.Proofs.YtoknogcefajfiaaW.PrintWords Go.Proofs.YtoknogcefajfiaaW.PrintLast Go.Proofs.YtoknogcefajfiaaW.PrintMore Wk
set_option linter.unusedVariables false
set_option linter.unusedSimpArgs false
theorem rows_get (xs : List (List Int)) (i : Nat) (h : i < xs.length) : rd_L2 xs i = xs[i] := by
  simp [rd_L2, List.getD_eq_getElem?_getD, h]
theorem szRows_l0 (xs : List (List Int)) (hx : ∀ r ∈ xs, r.length ≤ 9223372036854775807) (hl : xs.length ≤ 1048576) : ∀ (d i : Nat) (left : Int), i + d = xs.length → 0 ≤ left → left ≤ 1048576 →
    ∃ r : Int, Ev (fun k => laws_szIntSS.l0 k xs left i) r ∧ -1 ≤ r ∧ r ≤ left ∧ (0 ≤ r → ∀ x ∈ xs.drop i, (x.length : Int) ≤ 1048576) := by
  intro d
  induction d with
  | zero =>
    intro i left h h0 h1
    refine ⟨left, next ?_, by omega, by omega, fun _ => by rw [List.drop_eq_nil_of_le (by omega)]; intro x hx; cases hx⟩
    simp only [laws_szIntSS.l0, if_neg (show ¬ (i : Int) < (xs.length : Int) by omega)]
    exact Ev.now _
  | succ d ih =>
    intro i left h h0 h1
    have hi : i < xs.length := by omega
    have hb := hx xs[i] (List.getElem_mem _)
    have hw : wrap64 (left - (xs[i].length : Int)) = left - (xs[i].length : Int) := w64 (by omega) (by omega)
    by_cases hneg : left - (xs[i].length : Int) < 0
    · refine ⟨-1, next ?_, by omega, by omega, fun h => by omega⟩
      simp only [laws_szIntSS.l0, if_pos (show (i : Int) < (xs.length : Int) by omega), if_pos (show (0 : Int) ≤ i by omega), laws_szIntS.f, rows_get xs i hi, hw, if_pos hneg, Option.bind_some, if_pos (show (-1 : Int) < 0 by omega)]
      exact Ev.now _
    · obtain ⟨r, hr, h2, h3, h4⟩ := ih (i + 1) (left - (xs[i].length : Int)) (by omega) (by omega) (by omega)
      refine ⟨r, next ?_, h2, by omega, fun hr0 x hx => ?_⟩
      · simp only [laws_szIntSS.l0, if_pos (show (i : Int) < (xs.length : Int) by omega), if_pos (show (0 : Int) ≤ i by omega), laws_szIntS.f, rows_get xs i hi, hw, if_neg hneg, Option.bind_some, up1 (show i < 9223372036854775807 by omega)]
        exact hr
      · rw [List.drop_eq_getElem_cons hi] at hx
        rcases List.mem_cons.mp hx with rfl | hx
        · omega
        · exact h4 hr0 x hx
theorem szDfa (a : List Bool) (n : List (List Int)) (ha : a.length ≤ 9223372036854775807) (hn : n.length ≤ 9223372036854775807) (hx : ∀ r ∈ n, r.length ≤ 9223372036854775807) (left : Int) (h0 : 0 ≤ left) (h1 : left ≤ 1048576) :
    ∃ r : Int, Ev (fun k => laws_szDfa.f k a n left) r ∧ -1 ≤ r ∧ r ≤ left ∧ (0 ≤ r → a.length ≤ 1048576 ∧ n.length ≤ 1048576 ∧ ∀ x ∈ n, x.length ≤ 1048576) := by
  simp only [laws_szDfa.f, laws_szBoolS.f, laws_szIntSS.f]
  have hw : wrap64 (left - (a.length : Int)) = left - (a.length : Int) := w64 (by omega) (by omega)
  rw [hw]
  by_cases hneg : left - (a.length : Int) < 0
  · refine ⟨-1, ?_, by omega, by omega, fun h => by omega⟩
    simp only [if_pos hneg, Option.bind_some, if_pos (show (-1 : Int) < 0 by omega)]
    exact Ev.now _
  · have hw2 : wrap64 (left - (a.length : Int) - (n.length : Int)) = left - (a.length : Int) - (n.length : Int) := w64 (by omega) (by omega)
    simp only [if_neg hneg, Option.bind_some, hw2]
    by_cases hneg2 : left - (a.length : Int) - (n.length : Int) < 0
    · refine ⟨-1, ?_, by omega, by omega, fun h => by omega⟩
      simp only [if_pos hneg2, Option.bind_some, if_pos (show (-1 : Int) < 0 by omega)]
      exact Ev.now _
    · obtain ⟨r, hr, h2, h3, h4⟩ := szRows_l0 n hx (by omega) n.length 0 (left - (a.length : Int) - (n.length : Int)) (by omega) (by omega) (by omega)
      refine ⟨r, ?_, h2, by omega, fun hr0 => ⟨by omega, by omega, fun x hx => ?_⟩⟩
      · simp only [if_neg hneg2]
        refine Ev.bind hr ?_
        by_cases hr0 : r < 0
        · simp only [if_pos hr0]
          exact ev_some (by omega)
        · simp only [if_neg hr0]
          exact Ev.now _
      · have := h4 hr0 x hx
        omega
theorem toBools_l0 (xs : List Bool) (hl : xs.length ≤ 1048576) : ∀ (d i : Nat) (ys : List Bool), i + d = xs.length → ys.length = xs.length → (∀ j, j < i → ys[j]? = xs[j]?) → Ev (fun k => laws_toBoolS.l0 k xs ys i) xs := by
  intro d
  induction d with
  | zero =>
    intro i ys h hy hj
    refine next ?_
    simp only [laws_toBoolS.l0, if_neg (show ¬ (i : Int) < (xs.length : Int) by omega)]
    refine ev_some (List.ext_getElem? fun j => ?_)
    by_cases hlt : j < i
    · exact hj j hlt
    · rw [List.getElem?_eq_none (by omega), List.getElem?_eq_none (by omega)]
  | succ d ih =>
    intro i ys h hy hj
    have hi : i < xs.length := by omega
    refine next ?_
    simp only [laws_toBoolS.l0, if_pos (show (i : Int) < (xs.length : Int) by omega), if_pos (show (0 : Int) ≤ i by omega), if_pos (show (i : Int) < (ys.length : Int) by omega), rdOf_get _ xs i hi, up1 (show i < 9223372036854775807 by omega), Int.toNat_natCast]
    refine ih (i + 1) _ (by omega) (by simp [hy]) (fun j hlt => ?_)
    by_cases e : j = i
    · subst e
      rw [List.getElem?_set_self (by omega), List.getElem?_eq_getElem hi]
    · rw [List.getElem?_set_ne (by omega)]
      exact hj j (by omega)
theorem toBools (xs : List Bool) (hl : xs.length ≤ 1048576) : Ev (fun k => laws_toBoolS.f k xs) xs := by
  simp only [laws_toBoolS.f, if_pos (show (0 : Int) ≤ (xs.length : Int) by omega), Int.toNat_natCast, if_pos (show xs.length ≤ 281474976710656 by omega)]
  exact toBools_l0 xs hl xs.length 0 _ (by omega) (by simp) (fun j hj => by omega)
theorem toInts_l0 (xs : List Int) (hl : xs.length ≤ 1048576) : ∀ (d i : Nat) (ys : List Int), i + d = xs.length → ys.length = xs.length → (∀ j, j < i → ys[j]? = xs[j]?) → Ev (fun k => laws_toIntS.l0 k xs ys i) xs := by
  intro d
  induction d with
  | zero =>
    intro i ys h hy hj
    refine next ?_
    simp only [laws_toIntS.l0, if_neg (show ¬ (i : Int) < (xs.length : Int) by omega)]
    refine ev_some (List.ext_getElem? fun j => ?_)
    by_cases hlt : j < i
    · exact hj j hlt
    · rw [List.getElem?_eq_none (by omega), List.getElem?_eq_none (by omega)]
  | succ d ih =>
    intro i ys h hy hj
    have hi : i < xs.length := by omega
    refine next ?_
    simp only [laws_toIntS.l0, if_pos (show (i : Int) < (xs.length : Int) by omega), if_pos (show (0 : Int) ≤ i by omega), if_pos (show (i : Int) < (ys.length : Int) by omega), rd_get xs i hi, up1 (show i < 9223372036854775807 by omega), Int.toNat_natCast]
    refine ih (i + 1) _ (by omega) (by simp [hy]) (fun j hlt => ?_)
    by_cases e : j = i
    · subst e
      rw [List.getElem?_set_self (by omega), List.getElem?_eq_getElem hi]
    · rw [List.getElem?_set_ne (by omega)]
      exact hj j (by omega)
theorem toInts (xs : List Int) (hl : xs.length ≤ 1048576) : Ev (fun k => laws_toIntS.f k xs) xs := by
  simp only [laws_toIntS.f, if_pos (show (0 : Int) ≤ (xs.length : Int) by omega), Int.toNat_natCast, if_pos (show xs.length ≤ 35184372088832 by omega)]
  exact toInts_l0 xs hl xs.length 0 _ (by omega) (by simp) (fun j hj => by omega)
theorem toRows_l0 (xs : List (List Int)) (hl : xs.length ≤ 1048576) (hx : ∀ x ∈ xs, x.length ≤ 1048576) : ∀ (d i : Nat) (ys : List (List Int)), i + d = xs.length → ys.length = xs.length → (∀ j, j < i → ys[j]? = xs[j]?) → Ev (fun k => laws_toIntSS.l0 k xs ys i) xs := by
  intro d
  induction d with
  | zero =>
    intro i ys h hy hj
    refine next ?_
    simp only [laws_toIntSS.l0, if_neg (show ¬ (i : Int) < (xs.length : Int) by omega)]
    refine ev_some (List.ext_getElem? fun j => ?_)
    by_cases hlt : j < i
    · exact hj j hlt
    · rw [List.getElem?_eq_none (by omega), List.getElem?_eq_none (by omega)]
  | succ d ih =>
    intro i ys h hy hj
    have hi : i < xs.length := by omega
    refine next ?_
    simp only [laws_toIntSS.l0, if_pos (show (i : Int) < (xs.length : Int) by omega), if_pos (show (0 : Int) ≤ i by omega), rows_get xs i hi]
    refine Ev.bind (toInts xs[i] (hx _ (List.getElem_mem _))) ?_
    simp only [if_pos (show (i : Int) < (ys.length : Int) by omega), up1 (show i < 9223372036854775807 by omega), Int.toNat_natCast]
    refine ih (i + 1) _ (by omega) (by simp [hy]) (fun j hlt => ?_)
    by_cases e : j = i
    · subst e
      rw [List.getElem?_set_self (by omega), List.getElem?_eq_getElem hi]
    · rw [List.getElem?_set_ne (by omega)]
      exact hj j (by omega)
theorem toRows (xs : List (List Int)) (hl : xs.length ≤ 1048576) (hx : ∀ x ∈ xs, x.length ≤ 1048576) : Ev (fun k => laws_toIntSS.f k xs) xs := by
  simp only [laws_toIntSS.f, if_pos (show (0 : Int) ≤ (xs.length : Int) by omega), Int.toNat_natCast, if_pos (show xs.length ≤ 11728124029610 by omega)]
  exact toRows_l0 xs hl hx xs.length 0 _ (by omega) (by simp) (fun j hj => by omega)
theorem toDfa (a : List Bool) (n : List (List Int)) (ha : a.length ≤ 1048576) (hn : n.length ≤ 1048576) (hx : ∀ x ∈ n, x.length ≤ 1048576) : Ev (fun k => laws_toDfa.f k a n) (a, n) := by
  simp only [laws_toDfa.f]
  refine Ev.bind (toBools a ha) (Ev.bind (toRows n hn hx) ?_)
  exact Ev.now _
theorem sameInts_l0 (a b : List Int) (hl : a.length = b.length) (hn : a.length ≤ 1048576) : ∀ d i : Nat, i + d = a.length → Ev (fun k => laws_eqIntS.l0 k a b i) (decide (a.drop i = b.drop i)) := by
  intro d
  induction d with
  | zero =>
    intro i h
    refine next ?_
    simp only [laws_eqIntS.l0, if_neg (show ¬ (i : Int) < (a.length : Int) by omega)]
    exact ev_some (by rw [List.drop_eq_nil_of_le (by omega), List.drop_eq_nil_of_le (by omega)]; simp)
  | succ d ih =>
    intro i h
    refine next ?_
    have ha : i < a.length := by omega
    have hb : i < b.length := by omega
    have e : (a.drop i = b.drop i) ↔ (a[i] = b[i] ∧ a.drop (i + 1) = b.drop (i + 1)) := by
      rw [List.drop_eq_getElem_cons ha, List.drop_eq_getElem_cons hb]
      exact List.cons_eq_cons
    simp only [laws_eqIntS.l0, if_pos (show (i : Int) < (a.length : Int) by omega), if_pos (show (0 : Int) ≤ i by omega), if_pos (show (i : Int) < (b.length : Int) by omega), rd_get a i ha, rd_get b i hb]
    by_cases he : a[i] = b[i]
    · simp only [if_pos he, up1 (show i < 9223372036854775807 by omega)]
      exact ev_eq (ih (i + 1) (by omega)) (decide_eq_decide.mpr (by rw [e]; exact ⟨fun x => ⟨he, x⟩, fun x => x.2⟩))
    · simp only [if_neg he]
      exact ev_some (by rw [eq_comm, decide_eq_false_iff_not, e]; exact fun x => he x.1)
theorem sameInts (a b : List Int) (hn : a.length ≤ 1048576) : Ev (fun k => laws_eqIntS.f k a b) (decide (a = b)) := by
  simp only [laws_eqIntS.f]
  by_cases h : a.length = b.length
  · simp only [if_pos (show (a.length : Int) = (b.length : Int) by omega)]
    exact sameInts_l0 a b h hn a.length 0 (by omega)
  · simp only [if_neg (show ¬ (a.length : Int) = (b.length : Int) by omega)]
    exact ev_some (by simp; intro e; exact h (by rw [e]))
theorem sameBools_l0 (a b : List Bool) (hl : a.length = b.length) (hn : a.length ≤ 1048576) : ∀ d i : Nat, i + d = a.length → Ev (fun k => laws_eqBoolS.l0 k a b i) (decide (a.drop i = b.drop i)) := by
  intro d
  induction d with
  | zero =>
    intro i h
    refine next ?_
    simp only [laws_eqBoolS.l0, if_neg (show ¬ (i : Int) < (a.length : Int) by omega)]
    exact ev_some (by rw [List.drop_eq_nil_of_le (by omega), List.drop_eq_nil_of_le (by omega)]; simp)
  | succ d ih =>
    intro i h
    refine next ?_
    have ha : i < a.length := by omega
    have hb : i < b.length := by omega
    have e : (a.drop i = b.drop i) ↔ (a[i] = b[i] ∧ a.drop (i + 1) = b.drop (i + 1)) := by
      rw [List.drop_eq_getElem_cons ha, List.drop_eq_getElem_cons hb]
      exact List.cons_eq_cons
    simp only [laws_eqBoolS.l0, if_pos (show (i : Int) < (a.length : Int) by omega), if_pos (show (0 : Int) ≤ i by omega), if_pos (show (i : Int) < (b.length : Int) by omega), rdOf_get _ a i ha, rdOf_get _ b i hb]
    by_cases he : a[i] = b[i]
    · simp only [show (a[i] != b[i]) = false from bne_eq_false_iff_eq.mpr he, Bool.false_ne_true, if_false, up1 (show i < 9223372036854775807 by omega)]
      exact ev_eq (ih (i + 1) (by omega)) (decide_eq_decide.mpr (by rw [e]; exact ⟨fun x => ⟨he, x⟩, fun x => x.2⟩))
    · simp only [show (a[i] != b[i]) = true from bne_iff_ne.mpr he, if_true]
      exact ev_some (by rw [eq_comm, decide_eq_false_iff_not, e]; exact fun x => he x.1)
theorem sameBools (a b : List Bool) (hn : a.length ≤ 1048576) : Ev (fun k => laws_eqBoolS.f k a b) (decide (a = b)) := by
  simp only [laws_eqBoolS.f]
  by_cases h : a.length = b.length
  · simp only [if_pos (show (a.length : Int) = (b.length : Int) by omega)]
    exact sameBools_l0 a b h hn a.length 0 (by omega)
  · simp only [if_neg (show ¬ (a.length : Int) = (b.length : Int) by omega)]
    exact ev_some (by simp; intro e; exact h (by rw [e]))
theorem sameRows_l0 (a b : List (List Int)) (hl : a.length = b.length) (hn : a.length ≤ 1048576) (hx : ∀ x ∈ a, x.length ≤ 1048576) : ∀ d i : Nat, i + d = a.length → Ev (fun k => laws_eqIntSS.l0 k a b i) (decide (a.drop i = b.drop i)) := by
  intro d
  induction d with
  | zero =>
    intro i h
    refine next ?_
    simp only [laws_eqIntSS.l0, if_neg (show ¬ (i : Int) < (a.length : Int) by omega)]
    exact ev_some (by rw [List.drop_eq_nil_of_le (by omega), List.drop_eq_nil_of_le (by omega)]; simp)
  | succ d ih =>
    intro i h
    refine next ?_
    have ha : i < a.length := by omega
    have hb : i < b.length := by omega
    have e : (a.drop i = b.drop i) ↔ (a[i] = b[i] ∧ a.drop (i + 1) = b.drop (i + 1)) := by
      rw [List.drop_eq_getElem_cons ha, List.drop_eq_getElem_cons hb]
      exact List.cons_eq_cons
    simp only [laws_eqIntSS.l0, if_pos (show (i : Int) < (a.length : Int) by omega), if_pos (show (0 : Int) ≤ i by omega), if_pos (show (i : Int) < (b.length : Int) by omega), rows_get a i ha, rows_get b i hb]
    refine Ev.bind (sameInts a[i] b[i] (hx _ (List.getElem_mem _))) ?_
    by_cases he : a[i] = b[i]
    · simp only [decide_eq_true he, if_true, up1 (show i < 9223372036854775807 by omega)]
      exact ev_eq (ih (i + 1) (by omega)) (decide_eq_decide.mpr (by rw [e]; exact ⟨fun x => ⟨he, x⟩, fun x => x.2⟩))
    · simp only [decide_eq_false he, Bool.false_ne_true, if_false]
      exact ev_some (by rw [eq_comm, decide_eq_false_iff_not, e]; exact fun x => he x.1)
theorem sameRows (a b : List (List Int)) (hn : a.length ≤ 1048576) (hx : ∀ x ∈ a, x.length ≤ 1048576) : Ev (fun k => laws_eqIntSS.f k a b) (decide (a = b)) := by
  simp only [laws_eqIntSS.f]
  by_cases h : a.length = b.length
  · simp only [if_pos (show (a.length : Int) = (b.length : Int) by omega)]
    exact sameRows_l0 a b h hn hx a.length 0 (by omega)
  · simp only [if_neg (show ¬ (a.length : Int) = (b.length : Int) by omega)]
    exact ev_some (by simp; intro e; exact h (by rw [e]))
theorem sameDfa (a : List Bool) (n : List (List Int)) (a2 : List Bool) (n2 : List (List Int)) (ha : a.length ≤ 1048576) (hn : n.length ≤ 1048576) (hx : ∀ x ∈ n, x.length ≤ 1048576) : Ev (fun k => laws_eqDfa.f k a n a2 n2) (decide (a = a2) && decide (n = n2)) := by
  simp only [laws_eqDfa.f]
  refine Ev.bind (sameBools a a2 ha) ?_
  by_cases h1 : a = a2
  · simp only [decide_eq_true h1, if_true, Bool.true_and]
    refine Ev.bind (sameRows n n2 hn hx) ?_
    by_cases h2 : n = n2
    · simp only [decide_eq_true h2, if_true]
      exact Ev.now _
    · simp only [decide_eq_false h2, Bool.false_ne_true, if_false]
      exact Ev.now _
  · simp only [decide_eq_false h1, Bool.false_ne_true, if_false, Bool.false_and]
    exact Ev.now _
theorem spec_in (a lo hi : Int) : spec_l1In.f a lo hi = some (decide (lo ≤ a) && decide (a ≤ hi)) := by
  unfold spec_l1In.f
  by_cases h : a ≥ lo
  · rw [if_pos h, decide_eq_true (show lo ≤ a from h), Bool.true_and]
  · rw [if_neg h, decide_eq_false (show ¬ lo ≤ a from h), Bool.false_and]
theorem badState_eq (n q : Int) : badState n q = !(decide (0 ≤ q) && decide (q ≤ n - 1)) := by
  unfold badState
  cases decide (0 ≤ q) <;> cases decide (q ≤ n - 1) <;> rfl
theorem spec_valid_l1 (acc : List Bool) (nxt : List (List Int)) (q : Nat) (hq : q < nxt.length) (hnl : nxt.length ≤ 1048576) (h3 : nxt[q].length = 3) (hn1 : 1 ≤ acc.length) (hn : acc.length ≤ 40) (res : Bool) (h : Ev (fun k => spec_IsValidDfa.l0 k (acc.length : Int) ((q + 1 : Nat) : Int) acc nxt) res) :
    ∀ d i : Nat, i + d = 3 → Ev (fun k => spec_IsValidDfa.l1 k (acc.length : Int) q i acc nxt) (if (nxt[q].drop i).any (badState acc.length) = true then false else res) := by
  intro d
  induction d with
  | zero =>
    intro i hd
    refine next ?_
    simp only [spec_IsValidDfa.l1, if_pos (show (0 : Int) ≤ q by omega), if_pos (show (q : Int) < (nxt.length : Int) by omega), rows_get nxt q hq, if_neg (show ¬ (i : Int) < (nxt[q].length : Int) by omega)]
    rw [List.drop_eq_nil_of_le (by omega), List.any_nil, if_neg (by simp)]
    simp only [up1 (show q < 9223372036854775807 by omega)]
    exact h
  | succ d ih =>
    intro i hd
    refine next ?_
    have hi : i < nxt[q].length := by omega
    have hw : wrap64 ((acc.length : Int) - 1) = (acc.length : Int) - 1 := w64 (by omega) (by omega)
    simp only [spec_IsValidDfa.l1, if_pos (show (0 : Int) ≤ q by omega), if_pos (show (q : Int) < (nxt.length : Int) by omega), rows_get nxt q hq, if_pos (show (i : Int) < (nxt[q].length : Int) by omega), if_pos (show (0 : Int) ≤ i by omega), rd_get nxt[q] i hi, spec_in, Option.bind_some, hw, up1 (show i < 9223372036854775807 by omega)]
    rw [List.drop_eq_getElem_cons hi, List.any_cons]
    have hbe := badState_eq (acc.length : Int) nxt[q][i]
    by_cases hb : badState acc.length nxt[q][i] = true
    · have hb2 : (decide (0 ≤ nxt[q][i]) && decide (nxt[q][i] ≤ (acc.length : Int) - 1)) = false := by
        rw [hb] at hbe
        cases hc : (decide (0 ≤ nxt[q][i]) && decide (nxt[q][i] ≤ (acc.length : Int) - 1)) with
        | true => rw [hc] at hbe; cases hbe
        | false => rfl
      simp only [hb2, Bool.false_ne_true, if_false, hb, Bool.true_or, if_true]
      exact Ev.now _
    · have hb2 : (decide (0 ≤ nxt[q][i]) && decide (nxt[q][i] ≤ (acc.length : Int) - 1)) = true := by
        rw [eq_false_of_ne_true hb] at hbe
        cases hc : (decide (0 ≤ nxt[q][i]) && decide (nxt[q][i] ≤ (acc.length : Int) - 1)) with
        | true => rfl
        | false => rw [hc] at hbe; cases hbe
      simp only [hb2, if_true, eq_false_of_ne_true hb, Bool.false_or]
      exact ih (i + 1) (by omega)
theorem spec_valid_l0 (acc : List Bool) (nxt : List (List Int)) (hl : nxt.length = acc.length) (hn1 : 1 ≤ acc.length) (hn : acc.length ≤ 40) :
    ∀ d q : Nat, q + d = acc.length → Ev (fun k => spec_IsValidDfa.l0 k (acc.length : Int) q acc nxt) (!((nxt.drop q).any (badRow acc.length))) := by
  intro d
  induction d with
  | zero =>
    intro q hd
    refine next ?_
    simp only [spec_IsValidDfa.l0, if_neg (show ¬ (q : Int) < (acc.length : Int) by omega)]
    exact ev_some (by rw [List.drop_eq_nil_of_le (by omega)]; rfl)
  | succ d ih =>
    intro q hd
    have hq : q < nxt.length := by omega
    refine next ?_
    simp only [spec_IsValidDfa.l0, if_pos (show (q : Int) < (acc.length : Int) by omega), if_pos (show (0 : Int) ≤ q by omega), if_pos (show (q : Int) < (nxt.length : Int) by omega), rows_get nxt q hq]
    rw [List.drop_eq_getElem_cons hq, List.any_cons]
    by_cases h3 : nxt[q].length = 3
    · simp only [if_pos (show (nxt[q].length : Int) = 3 by omega)]
      refine ev_eq (spec_valid_l1 acc nxt q hq (by omega) h3 hn1 hn _ (ih (q + 1) (by omega)) 3 0 rfl) ?_
      rw [List.drop_zero]
      have e : badRow acc.length nxt[q] = nxt[q].any (badState acc.length) := by simp [badRow, h3]
      rw [e]
      cases nxt[q].any (badState acc.length) <;> simp
    · simp only [if_neg (show ¬ (nxt[q].length : Int) = 3 by omega)]
      exact ev_some (by simp [badRow, h3])
theorem spec_valid (acc : List Bool) (nxt : List (List Int)) (ha : acc.length ≤ 1048576) (hn : nxt.length ≤ 1048576) : Ev (fun k => spec_IsValidDfa.f k acc nxt) (validD acc nxt) := by
  have jt : ∀ b : Bool, Ev (fun k => spec_IsValidDfa.j0 k (acc.length : Int) true acc nxt) false := by
    intro b
    refine next ?_
    simp only [spec_IsValidDfa.j0, if_true]
    exact Ev.now _
  simp only [spec_IsValidDfa.f, spec_in, Option.bind_some, validD]
  by_cases h : 1 ≤ acc.length ∧ acc.length ≤ 40
  · have e1 : (decide ((1 : Int) ≤ (acc.length : Int)) && decide ((acc.length : Int) ≤ 40)) = true := by
      rw [decide_eq_true (show (1 : Int) ≤ (acc.length : Int) by omega), decide_eq_true (show (acc.length : Int) ≤ 40 by omega)]; rfl
    simp only [e1, if_true, decide_eq_true h.1, decide_eq_true h.2, Bool.true_and]
    by_cases hl : nxt.length = acc.length
    · have e2 : ((nxt.length : Int) != (acc.length : Int)) = false := by rw [bne_eq_false_iff_eq]; omega
      simp only [e2, decide_eq_true hl, Bool.true_and]
      refine next ?_
      simp only [spec_IsValidDfa.j0, Bool.false_ne_true, if_false]
      exact spec_valid_l0 acc nxt hl h.1 h.2 acc.length 0 (by omega)
    · have e2 : ((nxt.length : Int) != (acc.length : Int)) = true := by rw [bne_iff_ne]; omega
      simp only [e2, decide_eq_false hl, Bool.false_and]
      exact jt true
  · have e1 : (decide ((1 : Int) ≤ (acc.length : Int)) && decide ((acc.length : Int) ≤ 40)) = false := by
      by_cases h1 : 1 ≤ acc.length
      · rw [decide_eq_false (show ¬ (acc.length : Int) ≤ 40 by omega), Bool.and_false]
      · rw [decide_eq_false (show ¬ (1 : Int) ≤ (acc.length : Int) by omega), Bool.false_and]
    have e2 : (decide (1 ≤ acc.length) && decide (acc.length ≤ 40)) = false := by
      by_cases h1 : 1 ≤ acc.length
      · rw [decide_eq_false (show ¬ acc.length ≤ 40 by omega), Bool.and_false]
      · rw [decide_eq_false h1, Bool.false_and]
    simp only [e1, e2, Bool.false_ne_true, if_false, Bool.false_and]
    exact jt true
theorem lens {n : List (List Int)} (w : Rk.rowsOf (Rk.rowsOf (Rk.wfI .i64)) n) : ∀ r ∈ n, r.length ≤ 9223372036854775807 := fun r hr => (w.2 r hr).1
end Go.Proofs.Ytoknogcefajfiaa.Pl
end
section
namespace Go.Proofs.Ytoknogcefajfiaa.P
open Go.RowKit Go.Proofs.YtoknogcefajfiaaW.PrintWords Go.Proofs.YtoknogcefajfiaaW.PrintLast Go.Proofs.YtoknogcefajfiaaW.PrintMore
attribute [local go_sem] max2_int min2_int max_two min_two max_three min_three max_four min_four
set_option linter.unusedVariables false
set_option linter.unusedSimpArgs false
def spec_MinimizeDfa.f (k : Nat) (l0_0 : List Bool) (l0_1 : List (List Int)) : Option (List Bool × (List (List Int))) := (spec_IsValidDfa.f k l0_0 l0_1).bind fun t886 => (if t886 = true then ((spec_l5Minimal.f k l0_0 l0_1).bind fun bt887 => (some (bt887.1, bt887.2))) else (some (([] : List Bool), ([] : List (List Int)))))
theorem spec_MinimizeDfa.mono : ∀ a0 a1 k, LeO (spec_MinimizeDfa.f k a0 a1) (spec_MinimizeDfa.f (k + 1) a0 a1) := by
 intro a0 a1 k
 unfold spec_MinimizeDfa.f
 repeat' first
   | (with_reducible exact spec_IsValidDfa.mono _ _ _)
   | (with_reducible exact spec_l5Minimal.mono _ _ _)
   | (with_reducible exact LeO.refl _)
   | (with_reducible exact LeO.none _)
   | (with_reducible refine LeO.ite ?_ ?_)
   | (with_reducible refine LeO.bind ?_ (fun _ => ?_))
   | exact spec_IsValidDfa.mono _ _ _
   | exact spec_l5Minimal.mono _ _ _
   | exact LeO.none _
   | refine LeO.ite ?_ ?_
   | refine LeO.bind ?_ (fun _ => ?_)
set_option maxHeartbeats 8000000 in
set_option maxRecDepth 100000 in
theorem spec_MinimizeDfa.calls (k : Nat) (A0_0 : Option Addr) (c0_0 : Nat) (l0_0 : List Bool) (A0_1 : Option Addr) (c0_1 : Nat) (l0_1 : List (List Int)) (r1 : List Bool) (r2 : List (List Int)) (w : World) (hr0_0 : Kd.C Kd.bool w A0_0 l0_0.length l0_0) (hc0_0 : l0_0.length ≤ c0_0) (hr0_1 : Kd.C (Kd.slice 3 (Kd.int .i64)) w A0_1 l0_1.length l0_1) (hc0_1 : l0_1.length ≤ c0_1) (h : spec_MinimizeDfa.f k l0_0 l0_1 = some (r1, r2)) :
  Calls Try.prog 47 #[.agg #[.slice A0_0 l0_0.length c0_0, .slice A0_1 l0_1.length c0_1]] w fun e w' => ∃ v0_ v1_ : Value, e = .returned (.agg #[v0_, v1_]) ∧ Kd.R Kd.bool 4 w' w.heap.size (fun _ => True) v0_ r1 ∧ Kd.S (Kd.slice 3 (Kd.int .i64)) 54 w' w.heap.size (fun _ => True) v1_ r2 ∧ Below w.heap.size w w' := by
 have hu28 := Try.underlying28
 have HR0_0 := Aside0.mk hr0_0
 have HC0_0 := Aside0.mk hc0_0
 clear hr0_0 hc0_0
 have HR0_1 := Aside0.mk hr0_1
 have HC0_1 := Aside0.mk hc0_1
 clear hr0_1 hc0_1
 have HB := Aside0.mk (Below.refl w.heap.size w)
 have H : ((spec_IsValidDfa.f k l0_0 l0_1).bind fun t886 => (if t886 = true then ((spec_l5Minimal.f k l0_0 l0_1).bind fun bt887 => (some (bt887.1, bt887.2))) else (some (([] : List Bool), ([] : List (List Int)))))) = some (r1, r2) := h
 clear h
 replace H := Option.bind_eq_some_iff.mp H
 obtain ⟨t886, A20, H⟩ := H
 replace H : (if t886 = true then ((spec_l5Minimal.f k l0_0 l0_1).bind fun bt887 => (some (bt887.1, bt887.2))) else (some (([] : List Bool), ([] : List (List Int))))) = some (r1, r2) := H
 have A2 := Aside0.mk A20
 clear A20
 by_cases c3 : t886 = true
 ·subst c3
  have H1 : ((spec_l5Minimal.f k l0_0 l0_1).bind fun bt887 => (some (bt887.1, bt887.2))) = some (r1, r2) := by rw [if_pos rfl] at H; exact H
  clear H
  have H := H1
  clear H1
  replace H := Option.bind_eq_some_iff.mp H
  obtain ⟨⟨t887, t890⟩, A40, H⟩ := H
  replace H : (some (t887, t890)) = some (r1, r2) := H
  have A4 := Aside0.mk A40
  clear A40
  simp only [Option.some.injEq, Prod.mk.injEq] at H
  obtain ⟨rfl, rfl⟩ := H
  go_enter Try.func47, Try.ntmps47
  go_wp2_with (first | ((with_reducible refine gate_dst (N := 1) rfl ?_); refine box_event ?hg (N := 1) ?hd (cs := #[.slice A0_0 l0_0.length c0_0, .slice A0_1 l0_1.length c0_1]) (t := 28) ?hr ?_; (case hd => rfl); (case hg => rfl); (case hr => first | (go_simp; done) | (go_simp; rfl)); intro gb884 hg w5 hbox hb; have n0_ := Aside0.mk (below_step (by repeat (first | (with_reducible first | exact HB.out | apply below_alloc | apply pw_below_drewN | apply below_drew1) | exact HB.out)) hb); have n1_ := Aside0.mk (hbox); have n2_ := Aside0.mk ((by rw [hg]; exact (below_size (by repeat (first | (with_reducible first | exact HB.out | apply below_alloc | apply pw_below_drewN | apply below_drew1) | exact HB.out))) : w.heap.size ≤ gb884)); have n3_ := Aside0.mk ((by rw [hg]; exact (below_size (by repeat (first | (with_reducible first | exact HB.out | apply below_alloc | apply pw_below_drewN | apply below_drew1) | exact HB.out))) : w.heap.size ≤ gb884)); clear HB; have HB := n0_; have BK884 := n1_; have GW884 := n2_; have GE884 := n3_; clear n0_ n1_ n2_ n3_; clear hb hbox hg) | ((with_reducible refine gate_dst (N := 2) rfl ?_); refine box_event ?hg (N := 2) ?hd (cs := #[.slice none 0 0, .slice none 0 0]) (t := 28) ?hr ?_; (case hd => rfl); (case hg => rfl); (case hr => first | (go_simp; done) | (go_simp; rfl)); intro gb885 hg w6 hbox hb; have n0_ := Aside0.mk (blk_below (g := gb884) (o := .cells #[.slice A0_0 l0_0.length c0_0, .slice A0_1 l0_1.length c0_1] 28 (0, 0)) (by (with_reducible repeat (first | refine blk_drewN ?_ _ | refine blk_drew ?_ | refine blk_alloc ?_ _)); exact BK884.out) hb); have n1_ := Aside0.mk (below_step (by repeat (first | (with_reducible first | exact HB.out | apply below_alloc | apply pw_below_drewN | apply below_drew1 | refine below_set ?_ GE884.out) | exact HB.out)) hb); have n2_ := Aside0.mk (hbox); have n3_ := Aside0.mk ((by rw [hg]; exact (below_size (by repeat (first | (with_reducible first | exact HB.out | apply below_alloc | apply pw_below_drewN | apply below_drew1 | refine below_set ?_ GE884.out) | exact HB.out))) : w.heap.size ≤ gb885)); have n4_ := Aside0.mk ((by rw [hg]; exact (below_size (by repeat (first | (with_reducible first | exact HB.out | apply below_alloc | apply pw_below_drewN | apply below_drew1 | refine below_set ?_ GE884.out) | exact HB.out))) : w.heap.size ≤ gb885)); have n5_ := Aside0.mk ((by rw [hg]; exact Nat.ne_of_lt (blk_lt (g := gb884) (o := .cells #[.slice A0_0 l0_0.length c0_0, .slice A0_1 l0_1.length c0_1] 28 (0, 0)) (by (with_reducible repeat (first | refine blk_drewN ?_ _ | refine blk_drew ?_ | refine blk_alloc ?_ _)); exact BK884.out)) : gb884 ≠ gb885)); have n6_ := Aside0.mk ((by rw [hg]; exact Nat.ne_of_gt (blk_lt (g := gb884) (o := .cells #[.slice A0_0 l0_0.length c0_0, .slice A0_1 l0_1.length c0_1] 28 (0, 0)) (by (with_reducible repeat (first | refine blk_drewN ?_ _ | refine blk_drew ?_ | refine blk_alloc ?_ _)); exact BK884.out)) : gb885 ≠ gb884)); clear BK884; clear HB; have BK884 := n0_; have HB := n1_; have BK885 := n2_; have GW885 := n3_; have GE885 := n4_; have NB884_885 := n5_; have NB885_884 := n6_; clear n0_ n1_ n2_ n3_ n4_ n5_ n6_; clear hb hbox hg; have hnb7 := NB884_885.out; have hnc7 := NB885_884.out; have hcz8_0 : w6.cell? ⟨gb884, 0, none⟩ = some (.slice A0_0 l0_0.length c0_0) := (blk_cell BK884.out 0).trans rfl; have hcz8_1 : w6.cell? ⟨gb884, 1, none⟩ = some (.slice A0_1 l0_1.length c0_1) := (blk_cell BK884.out 1).trans rfl; have hfz8_0 := blk_frozen BK884.out 0; have hfz8_1 := blk_frozen BK884.out 1) | ((with_reducible refine gate_callee (f := 16) rfl ?_); refine goesL_ (some 4) rfl rfl Try.func16 (by kernel_rfl) rfl #[.agg #[.slice A0_0 l0_0.length c0_0, .slice A0_1 l0_1.length c0_1]] rfl (by (try simp only [List.map_toArray, List.map_cons, List.map_nil]); first | done | rfl | (simp only [List.length_drop, List.length_take]; rfl)) ?_; (with_reducible refine (spec_IsValidDfa.calls k _ _ l0_0 _ _ l0_1 true _ ?side1 ?side2 ?side3 ?side4 A2.out).mono ?_); (case side1 => repeat (first | exact (Kd.C_below HR0_0.out HB.out) | (with_reducible refine Kd.C_alloc ?_ _) | (with_reducible refine Kd.C_drewN ?_ _) | (with_reducible refine Kd.C_drew ?_))); (case side2 => exact HC0_0.out); (case side3 => repeat (first | exact (Kd.C_below HR0_1.out HB.out) | (with_reducible refine Kd.C_alloc ?_ _) | (with_reducible refine Kd.C_drewN ?_ _) | (with_reducible refine Kd.C_drew ?_))); (case side4 => exact HC0_1.out); rintro e w9 ⟨rfl, hb⟩; refine ⟨_, rfl, ?_⟩; have n0_ := Aside0.mk (blk_below (g := gb884) (o := .cells #[.slice A0_0 l0_0.length c0_0, .slice A0_1 l0_1.length c0_1] 28 (0, 0)) (by (with_reducible repeat (first | refine blk_drewN ?_ _ | refine blk_drew ?_ | refine blk_alloc ?_ _)); exact BK884.out) hb); have n1_ := Aside0.mk (blk_below (g := gb885) (o := .cells #[.slice none 0 0, .slice none 0 0] 28 (0, 0)) (by (with_reducible repeat (first | refine blk_drewN ?_ _ | refine blk_drew ?_ | refine blk_alloc ?_ _)); exact BK885.out) hb); have n2_ := Aside0.mk (below_step (by repeat (first | (with_reducible first | exact HB.out | apply below_alloc | apply pw_below_drewN | apply below_drew1 | refine below_set ?_ GE884.out | refine below_set ?_ GE885.out) | exact HB.out)) hb); clear BK884; clear BK885; clear HB; have BK884 := n0_; have BK885 := n1_; have HB := n2_; clear n0_ n1_ n2_; (try clear hb); (try clear hb2); (try clear hk); (try clear hi); have hcz10_0 : w9.cell? ⟨gb884, 0, none⟩ = some (.slice A0_0 l0_0.length c0_0) := (blk_cell BK884.out 0).trans rfl; have hcz10_1 : w9.cell? ⟨gb884, 1, none⟩ = some (.slice A0_1 l0_1.length c0_1) := (blk_cell BK884.out 1).trans rfl; have hfz10_0 := blk_frozen BK884.out 0; have hfz10_1 := blk_frozen BK884.out 1) | ((with_reducible refine gate_callee (f := 92) rfl ?_); refine goesL_ (some 8) rfl rfl Try.func92 (by kernel_rfl) rfl #[.agg #[.slice A0_0 l0_0.length c0_0, .slice A0_1 l0_1.length c0_1]] rfl (by (try simp only [List.map_toArray, List.map_cons, List.map_nil]); first | done | rfl | (simp only [List.length_drop, List.length_take]; rfl)) ?_; (with_reducible refine (spec_l5Minimal.calls k _ _ l0_0 _ _ l0_1 t887 t890 _ ?side1 ?side2 ?side3 ?side4 A4.out).mono ?_); (case side1 => repeat (first | exact (Kd.C_below HR0_0.out HB.out) | (with_reducible refine Kd.C_alloc ?_ _) | (with_reducible refine Kd.C_drewN ?_ _) | (with_reducible refine Kd.C_drew ?_))); (case side2 => exact HC0_0.out); (case side3 => repeat (first | exact (Kd.C_below HR0_1.out HB.out) | (with_reducible refine Kd.C_alloc ?_ _) | (with_reducible refine Kd.C_drewN ?_ _) | (with_reducible refine Kd.C_drew ?_))); (case side4 => exact HC0_1.out); rintro e w11 ⟨v888, v891, rfl, ho0, ho1, hb⟩; refine ⟨_, rfl, ?_⟩; have n0_ := Aside0.mk (Kd.R_lower ho0 (below_size (by repeat (first | (with_reducible first | exact HB.out | apply below_alloc | apply pw_below_drewN | apply below_drew1 | refine below_set ?_ GE884.out | refine below_set ?_ GE885.out) | exact HB.out)))); have n1_ := Aside0.mk (Kd.S_lower ho1 (below_size (by repeat (first | (with_reducible first | exact HB.out | apply below_alloc | apply pw_below_drewN | apply below_drew1 | refine below_set ?_ GE884.out | refine below_set ?_ GE885.out) | exact HB.out)))); have n2_ := Aside0.mk (blk_below (g := gb884) (o := .cells #[.slice A0_0 l0_0.length c0_0, .slice A0_1 l0_1.length c0_1] 28 (0, 0)) (by (with_reducible repeat (first | refine blk_drewN ?_ _ | refine blk_drew ?_ | refine blk_alloc ?_ _)); exact BK884.out) hb); have n3_ := Aside0.mk (blk_below (g := gb885) (o := .cells #[.slice none 0 0, .slice none 0 0] 28 (0, 0)) (by (with_reducible repeat (first | refine blk_drewN ?_ _ | refine blk_drew ?_ | refine blk_alloc ?_ _)); exact BK885.out) hb); have n4_ := Aside0.mk (below_step (by repeat (first | (with_reducible first | exact HB.out | apply below_alloc | apply pw_below_drewN | apply below_drew1 | refine below_set ?_ GE884.out | refine below_set ?_ GE885.out) | exact HB.out)) hb); clear BK884; clear BK885; clear HB; have HO889 := n0_; have HO892 := n1_; have BK884 := n2_; have BK885 := n3_; have HB := n4_; clear n0_ n1_ n2_ n3_ n4_; (try clear hb); (try clear hb2); (try clear hk); (try clear hi); (try clear ho0); (try clear ho1); obtain ⟨Ao12, co12, eo12⟩ := Kd.R_slice HO889.out; subst eo12; have hcz13_0 : w11.cell? ⟨gb885, 0, none⟩ = some (.slice none 0 0) := (blk_cell BK885.out 0).trans rfl; have hcz13_1 : w11.cell? ⟨gb885, 1, none⟩ = some (.slice none 0 0) := (blk_cell BK885.out 1).trans rfl; have hfz13_0 := blk_frozen BK885.out 0; have hfz13_1 := blk_frozen BK885.out 1; obtain ⟨Ao14, co14, eo14⟩ := Kd.S_slice HO892.out; subst eo14))
  refine bodyPost_ret (results_cell_row rfl _ _ gb885 28 #[.slice Ao12 t887.length co12, .slice Ao14 t890.length co14] (0, 0) _ rfl (by (with_reducible repeat (first | refine blk_drewN ?_ _ | refine blk_drew ?_ | refine blk_alloc ?_ _)); refine blk_put (cs := #[.slice Ao12 t887.length co12, .slice none 0 0]) ?_ 1 _ rfl; (with_reducible repeat (first | refine blk_drewN ?_ _ | refine blk_drew ?_ | refine blk_alloc ?_ _)); refine blk_put (cs := #[.slice none 0 0, .slice none 0 0]) ?_ 0 _ rfl; (with_reducible repeat (first | refine blk_drewN ?_ _ | refine blk_drew ?_ | refine blk_alloc ?_ _)); exact BK885.out) Try.underlying28 rfl (by kernel_rfl)) rfl ?_
  exact ⟨_, _, by first | rfl | (simp [errW_none, errW_some] <;> rfl) | (simp [*, errW_none, errW_some] <;> rfl), by (with_reducible repeat (first | apply Kd.R_alloc | apply Kd.R_drewN | apply Kd.R_drew)); exact Kd.R_mono (Kd.R_far (p := ⟨gb885, 1, none⟩) (Kd.R_far (p := ⟨gb885, 0, none⟩) (Kd.R_types HO889.out BK885.out (by decide)) (fun _ hk => hk.2) (.slice Ao12 t887.length co12)) (fun _ hk => hk.2) (.slice Ao14 t890.length co14)) (fun _ hk => trivial), by (with_reducible repeat (first | apply Kd.S_alloc | apply Kd.S_drewN | apply Kd.S_drew)); exact Kd.S_mono (Kd.S_far (p := ⟨gb885, 1, none⟩) (Kd.S_far (p := ⟨gb885, 0, none⟩) (Kd.S_types HO892.out BK885.out (by decide)) (fun _ hk => hk.2) (.slice Ao12 t887.length co12)) (fun _ hk => hk.2) (.slice Ao14 t890.length co14)) (fun _ hk => trivial), by repeat (first | (with_reducible first | exact HB.out | apply below_alloc | apply pw_below_drewN | apply below_drew1 | refine below_set ?_ GE884.out | refine below_set ?_ GE885.out) | exact HB.out)⟩
 ·replace c3 := Bool.eq_false_iff.mpr c3
  subst c3
  have H1 : (some (([] : List Bool), ([] : List (List Int)))) = some (r1, r2) := by rw [if_neg (show ¬ (false = true) by decide)] at H; exact H
  clear H
  have H := H1
  clear H1
  simp only [Option.some.injEq, Prod.mk.injEq] at H
  obtain ⟨rfl, rfl⟩ := H
  go_enter Try.func47, Try.ntmps47
  go_wp2_with (first | ((with_reducible refine gate_dst (N := 1) rfl ?_); refine box_event ?hg (N := 1) ?hd (cs := #[.slice A0_0 l0_0.length c0_0, .slice A0_1 l0_1.length c0_1]) (t := 28) ?hr ?_; (case hd => rfl); (case hg => rfl); (case hr => first | (go_simp; done) | (go_simp; rfl)); intro gb884 hg w15 hbox hb; have n0_ := Aside0.mk (below_step (by repeat (first | (with_reducible first | exact HB.out | apply below_alloc | apply pw_below_drewN | apply below_drew1) | exact HB.out)) hb); have n1_ := Aside0.mk (hbox); have n2_ := Aside0.mk ((by rw [hg]; exact (below_size (by repeat (first | (with_reducible first | exact HB.out | apply below_alloc | apply pw_below_drewN | apply below_drew1) | exact HB.out))) : w.heap.size ≤ gb884)); have n3_ := Aside0.mk ((by rw [hg]; exact (below_size (by repeat (first | (with_reducible first | exact HB.out | apply below_alloc | apply pw_below_drewN | apply below_drew1) | exact HB.out))) : w.heap.size ≤ gb884)); clear HB; have HB := n0_; have BK884 := n1_; have GW884 := n2_; have GE884 := n3_; clear n0_ n1_ n2_ n3_; clear hb hbox hg) | ((with_reducible refine gate_dst (N := 2) rfl ?_); refine box_event ?hg (N := 2) ?hd (cs := #[.slice none 0 0, .slice none 0 0]) (t := 28) ?hr ?_; (case hd => rfl); (case hg => rfl); (case hr => first | (go_simp; done) | (go_simp; rfl)); intro gb885 hg w16 hbox hb; have n0_ := Aside0.mk (blk_below (g := gb884) (o := .cells #[.slice A0_0 l0_0.length c0_0, .slice A0_1 l0_1.length c0_1] 28 (0, 0)) (by (with_reducible repeat (first | refine blk_drewN ?_ _ | refine blk_drew ?_ | refine blk_alloc ?_ _)); exact BK884.out) hb); have n1_ := Aside0.mk (below_step (by repeat (first | (with_reducible first | exact HB.out | apply below_alloc | apply pw_below_drewN | apply below_drew1 | refine below_set ?_ GE884.out) | exact HB.out)) hb); have n2_ := Aside0.mk (hbox); have n3_ := Aside0.mk ((by rw [hg]; exact (below_size (by repeat (first | (with_reducible first | exact HB.out | apply below_alloc | apply pw_below_drewN | apply below_drew1 | refine below_set ?_ GE884.out) | exact HB.out))) : w.heap.size ≤ gb885)); have n4_ := Aside0.mk ((by rw [hg]; exact (below_size (by repeat (first | (with_reducible first | exact HB.out | apply below_alloc | apply pw_below_drewN | apply below_drew1 | refine below_set ?_ GE884.out) | exact HB.out))) : w.heap.size ≤ gb885)); have n5_ := Aside0.mk ((by rw [hg]; exact Nat.ne_of_lt (blk_lt (g := gb884) (o := .cells #[.slice A0_0 l0_0.length c0_0, .slice A0_1 l0_1.length c0_1] 28 (0, 0)) (by (with_reducible repeat (first | refine blk_drewN ?_ _ | refine blk_drew ?_ | refine blk_alloc ?_ _)); exact BK884.out)) : gb884 ≠ gb885)); have n6_ := Aside0.mk ((by rw [hg]; exact Nat.ne_of_gt (blk_lt (g := gb884) (o := .cells #[.slice A0_0 l0_0.length c0_0, .slice A0_1 l0_1.length c0_1] 28 (0, 0)) (by (with_reducible repeat (first | refine blk_drewN ?_ _ | refine blk_drew ?_ | refine blk_alloc ?_ _)); exact BK884.out)) : gb885 ≠ gb884)); clear BK884; clear HB; have BK884 := n0_; have HB := n1_; have BK885 := n2_; have GW885 := n3_; have GE885 := n4_; have NB884_885 := n5_; have NB885_884 := n6_; clear n0_ n1_ n2_ n3_ n4_ n5_ n6_; clear hb hbox hg; have hnb17 := NB884_885.out; have hnc17 := NB885_884.out; have hcz18_0 : w16.cell? ⟨gb884, 0, none⟩ = some (.slice A0_0 l0_0.length c0_0) := (blk_cell BK884.out 0).trans rfl; have hcz18_1 : w16.cell? ⟨gb884, 1, none⟩ = some (.slice A0_1 l0_1.length c0_1) := (blk_cell BK884.out 1).trans rfl; have hfz18_0 := blk_frozen BK884.out 0; have hfz18_1 := blk_frozen BK884.out 1) | ((with_reducible refine gate_callee (f := 16) rfl ?_); refine goesL_ (some 4) rfl rfl Try.func16 (by kernel_rfl) rfl #[.agg #[.slice A0_0 l0_0.length c0_0, .slice A0_1 l0_1.length c0_1]] rfl (by (try simp only [List.map_toArray, List.map_cons, List.map_nil]); first | done | rfl | (simp only [List.length_drop, List.length_take]; rfl)) ?_; (with_reducible refine (spec_IsValidDfa.calls k _ _ l0_0 _ _ l0_1 false _ ?side1 ?side2 ?side3 ?side4 A2.out).mono ?_); (case side1 => repeat (first | exact (Kd.C_below HR0_0.out HB.out) | (with_reducible refine Kd.C_alloc ?_ _) | (with_reducible refine Kd.C_drewN ?_ _) | (with_reducible refine Kd.C_drew ?_))); (case side2 => exact HC0_0.out); (case side3 => repeat (first | exact (Kd.C_below HR0_1.out HB.out) | (with_reducible refine Kd.C_alloc ?_ _) | (with_reducible refine Kd.C_drewN ?_ _) | (with_reducible refine Kd.C_drew ?_))); (case side4 => exact HC0_1.out); rintro e w19 ⟨rfl, hb⟩; refine ⟨_, rfl, ?_⟩; have n0_ := Aside0.mk (blk_below (g := gb884) (o := .cells #[.slice A0_0 l0_0.length c0_0, .slice A0_1 l0_1.length c0_1] 28 (0, 0)) (by (with_reducible repeat (first | refine blk_drewN ?_ _ | refine blk_drew ?_ | refine blk_alloc ?_ _)); exact BK884.out) hb); have n1_ := Aside0.mk (blk_below (g := gb885) (o := .cells #[.slice none 0 0, .slice none 0 0] 28 (0, 0)) (by (with_reducible repeat (first | refine blk_drewN ?_ _ | refine blk_drew ?_ | refine blk_alloc ?_ _)); exact BK885.out) hb); have n2_ := Aside0.mk (below_step (by repeat (first | (with_reducible first | exact HB.out | apply below_alloc | apply pw_below_drewN | apply below_drew1 | refine below_set ?_ GE884.out | refine below_set ?_ GE885.out) | exact HB.out)) hb); clear BK884; clear BK885; clear HB; have BK884 := n0_; have BK885 := n1_; have HB := n2_; clear n0_ n1_ n2_; (try clear hb); (try clear hb2); (try clear hk); (try clear hi); have hcz20_0 : w19.cell? ⟨gb885, 0, none⟩ = some (.slice none 0 0) := (blk_cell BK885.out 0).trans rfl; have hcz20_1 : w19.cell? ⟨gb885, 1, none⟩ = some (.slice none 0 0) := (blk_cell BK885.out 1).trans rfl; have hfz20_0 := blk_frozen BK885.out 0; have hfz20_1 := blk_frozen BK885.out 1))
  refine bodyPost_ret (results_cell_row rfl _ _ gb885 28 #[.slice none 0 0, .slice none 0 0] (0, 0) _ rfl (by (with_reducible repeat (first | refine blk_drewN ?_ _ | refine blk_drew ?_ | refine blk_alloc ?_ _)); refine blk_put (cs := #[.slice none 0 0, .slice none 0 0]) ?_ 1 _ rfl; (with_reducible repeat (first | refine blk_drewN ?_ _ | refine blk_drew ?_ | refine blk_alloc ?_ _)); refine blk_put (cs := #[.slice none 0 0, .slice none 0 0]) ?_ 0 _ rfl; (with_reducible repeat (first | refine blk_drewN ?_ _ | refine blk_drew ?_ | refine blk_alloc ?_ _)); exact BK885.out) Try.underlying28 rfl (by kernel_rfl)) rfl ?_
  exact ⟨_, _, by first | rfl | (simp [errW_none, errW_some] <;> rfl) | (simp [*, errW_none, errW_some] <;> rfl), by first | exact Kd.R_nil _ _ _ _ _ | exact Kd.N_nil _ _ _ _ _ | exact Kd.V_nil _ _ _ _ _ | exact Kd.Q_nil _ _ _ _ _ | exact Kd.S_nil _ _ _ _ _, by first | exact Kd.S_nil _ _ _ _ _ | exact Kd.N_nil _ _ _ _ _ | exact Kd.V_nil _ _ _ _ _ | exact Kd.Q_nil _ _ _ _ _ | exact Kd.R_nil _ _ _ _ _, by repeat (first | (with_reducible first | exact HB.out | apply below_alloc | apply pw_below_drewN | apply below_drew1 | refine below_set ?_ GE884.out | refine below_set ?_ GE885.out) | exact HB.out)⟩
end Go.Proofs.Ytoknogcefajfiaa.P
end
section
namespace Go.Proofs.Ytoknogcefajfiaa.Can
open Go.RowKit Go.Proofs.Ytoknogcefajfiaa Go.Proofs.Ytoknogcefajfiaa.P Go.Proofs.Ytoknogcefajfiaa.Wk Go.Proofs.Ytoknogcefajfiaa.Lg Go.Proofs.Ytoknogcefajfiaa.Pl Go.Proofs.Ytoknogcefajfiaa.Mp Go.Proofs.Ytoknogcefajfiaa.Bf Go.Proofs.Ytoknogcefajfiaa.Mn Go.Proofs.YtoknogcefajfiaaW.PrintWords Go.Proofs.YtoknogcefajfiaaW.PrintLast Go.Proofs.YtoknogcefajfiaaW.PrintMore
set_option linter.unusedVariables false
set_option linter.unusedSimpArgs false
set_option linter.unusedSectionVars false
theorem ldF_len : ∀ (m : List Int) (i : Nat) (ns ls : List Int), (ldF m i ns ls).2.length ≤ ls.length + m.length
  | [], i, ns, ls => by simp [ldF]
  | c :: m, i, ns, ls => by
    rw [ldF]
    split
    · have := ldF_len m (i + 1) ns ls
      simp only [List.length_cons]
      omega
    · have := ldF_len m (i + 1) (ns ++ [c]) (ls ++ [(i : Int)])
      simp only [List.length_append, List.length_cons, List.length_nil] at this ⊢
      omega
theorem refF_len (l1 : List (List Int)) (os : List Int) : ∀ (d : Nat) (cl : List Int) (c : Nat), cl.length = os.length → (refF l1 os d cl c).length = os.length
  | 0, cl, c, h => h
  | d + 1, cl, c, h => by
    rw [refF]
    have gl : (nmF (keys l1 os cl) [] []).2.length = os.length := by rw [nm_snd]; simp [keys]
    split
    · exact gl
    · exact refF_len l1 os d _ _ gl
theorem minD_len {acc : List Bool} {l1 : List (List Int)} (hf : Fits acc l1) {st : Int} (hst : 0 ≤ st ∧ st < (acc.length : Int)) : (minD acc l1 st).1.length ≤ acc.length ∧ (minD acc l1 st).2.length = (minD acc l1 st).1.length ∧ ∀ r ∈ (minD acc l1 st).2, r.length = 3 := by
  have h0 : ∀ x ∈ [st], 0 ≤ x ∧ x < (acc.length : Int) := fun x hx => by rw [List.mem_singleton] at hx; subst hx; exact hst
  have hR := ord_runs hf (acc.length + 2) [st] 0 (by simp) h0 (by omega)
  obtain ⟨R, hRR, hout⟩ := min_can hf hst
  have hlen : (minD acc l1 st).1.length ≤ acc.length := by
    unfold minD minT
    generalize ordF l1 (acc.length + 2) [st] 0 = os at hR
    have hn : os.Nodup := hR.nodup (by simp)
    have hdom := hR.all (p := fun x => 0 ≤ x ∧ x < (acc.length : Int)) (fun x hx y hy => (hf.row x hx).2 y hy) h0
    have h1 := refF_len l1 os (os.length + 2) (os.map (cls0 acc)) 0 (by simp)
    have h2 := card_n acc.length os hn hdom
    unfold outD
    simp only [List.length_map]
    have := ldF_len (refF l1 os (os.length + 2) (os.map (cls0 acc)) 0) 0 [] []
    simp only [List.length_nil] at this
    omega
  refine ⟨hlen, ?_, ?_⟩
  · rw [hout]
    simp [outL]
  · rw [hout]
    intro r hr
    unfold outL at hr
    obtain ⟨X, _, rfl⟩ := List.mem_map.mp hr
    simp [lsucc]
def minOf (acc : List Bool) (nx : List (List Int)) : List Bool × List (List Int) := if validD acc nx = true then minD acc nx 0 else ([], [])
theorem fits_valid {a : List Bool} {n : List (List Int)} (hv : validD a n = true) : Fits a n := by
  obtain ⟨h1, h2, h3, h4⟩ := validD_facts hv
  refine ⟨h3, fun q hq => ?_⟩
  have hlt : q.toNat < n.length := by omega
  unfold rowOf
  rw [List.getD_eq_getElem?_getD, List.getElem?_eq_getElem hlt]
  exact h4 _ (List.getElem_mem hlt)
theorem spec_minimize (a : List Bool) (n : List (List Int)) (ha : a.length ≤ 1048576) (hn : n.length ≤ 1048576) : Ev (fun k => spec_MinimizeDfa.f k a n) (minOf a n) := by
  simp only [spec_MinimizeDfa.f]
  refine Ev.bind (spec_valid a n ha hn) ?_
  unfold minOf
  by_cases hv : validD a n = true
  · simp only [hv, if_true]
    obtain ⟨h1, h2, h3, h4⟩ := validD_facts hv
    exact Ev.bind (min_same (fits_valid hv) h1 (by omega)) (Ev.now _)
  · simp only [if_neg hv]
    exact Ev.now _
theorem impl_minimize (a : List Bool) (n : List (List Int)) : impl_MinimizeDfa.f a n = some (minOf a n) := by
  unfold impl_MinimizeDfa.f impl_IsValidDfa.f minOf
  simp only [Option.bind_some]
  by_cases hv : validD a n = true
  · obtain ⟨h1, h2, h3, h4⟩ := validD_facts hv
    rw [if_pos hv, if_pos hv]
    unfold impl_minimized.f
    rw [if_pos ⟨h3, by omega, h4, by omega, by omega⟩]
    rfl
  · rw [if_neg hv, if_neg hv]
theorem minOf_len (a : List Bool) (n : List (List Int)) : (minOf a n).1.length ≤ 40 ∧ (minOf a n).2.length ≤ 40 ∧ ∀ r ∈ (minOf a n).2, r.length = 3 := by
  unfold minOf
  by_cases hv : validD a n = true
  · rw [if_pos hv]
    obtain ⟨h1, h2, h3, h4⟩ := validD_facts hv
    obtain ⟨l1, l2, l3⟩ := minD_len (fits_valid hv) (st := 0) (by omega)
    exact ⟨by omega, by omega, l3⟩
  · rw [if_neg hv]
    simp
end Go.Proofs.Ytoknogcefajfiaa.Can
end
