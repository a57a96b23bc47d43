/- Texts of the proof of FnExactProductDfa, put together. No condition. -/
import Derived.Test.YtogamkblkoobkaaQFnExactProductDfa7
import Derived.Test.YtogamkblkoobkaaQFnExactProductDfa2
import Derived.Test.YtogamkblkoobkaaQFnExactProductDfa8
import Derived.Test.YtogamkblkoobkaaQFnExactProductDfa6
import Derived.Test.YtogamkblkoobkaaQFnExactProductDfa4
import Derived.Shelf.Small.Strs
import Derived.Shelf.Strings.Search1
import Derived.Shelf.Slices.Equal
import Derived.Shelf.Slices.Empties2
import Derived.Test.YtogamkblkoobkaaProg
import Derived.Shelf.Abstract
import Derived.Lib.Walk
section
namespace Go.Proofs.Ytogamkblkoobkaa.Can
open Go.RowKit Go.Proofs.Ytogamkblkoobkaa Go.Proofs.Ytogamkblkoobkaa.P Go.Proofs.Ytogamkblkoobkaa.Lg Go.Proofs.Ytogamkblkoobkaa.Pl Go.Proofs.Ytogamkblkoobkaa.Mp Go.Proofs.Ytogamkblkoobkaa.Bf Go.Proofs.Ytogamkblkoobkaa.Mn Go.Proofs.YtogamkblkoobkaaW.PrintWords Go.Proofs.YtogamkblkoobkaaW.PrintLast Go.Proofs.YtogamkblkoobkaaW.PrintMore
set_option linter.unusedVariables false
set_option linter.unusedSimpArgs false
set_option linter.unusedSectionVars false
section
variable {acc : List Bool} {nx : List (List Int)} {cl : List Int} {r : Nat}
structure Inv (acc : List Bool) (nx : List (List Int)) (r : Nat) (cl : List Int) : Prop where
  len : cl.length = acc.length
  iff : ∀ p ∈ states acc.length, ∀ q ∈ states acc.length, (rd cl p = rd cl q ↔ sig acc nx r p = sig acc nx r q)
def Rep (acc : List Bool) (nx : List (List Int)) (r : Nat) (cl : List Int) : Prop := ∀ q ∈ states acc.length, rd cl q ∈ states acc.length ∧ sig acc nx r (rd cl q) = sig acc nx r q
theorem rd_at {l : List Int} {q : Int} (h0 : 0 ≤ q) (h1 : q < (l.length : Int)) : rd l q = l[q.toNat]'(by omega) := by
  have := rd_get l q.toNat (by omega)
  rwa [Int.toNat_of_nonneg h0] at this
theorem inv0 : Inv acc nx 0 (cl0 acc) := by
  have hlen : (cl0 acc).length = acc.length := by simp [cl0]
  have hat : ∀ p ∈ states acc.length, rd (cl0 acc) p = if rdOf false acc p = true then 1 else 0 := fun p hp => by
    have := mem_states.mp hp
    rw [rd_at this.1 (by omega)]
    have h2 := rdOf_get false acc p.toNat (by omega)
    rw [Int.toNat_of_nonneg this.1] at h2
    rw [h2]
    simp [cl0]
  refine ⟨hlen, fun p hp q hq => ?_⟩
  rw [hat p hp, hat q hq, sig_zero]
  cases h1 : rdOf false acc p <;> cases h2 : rdOf false acc q <;> simp
theorem succ_state (hf : Fits acc nx) {p : Int} (hp : p ∈ states acc.length) (k : Fin 3) : rd (rowOf nx p) (k.val : Int) ∈ states acc.length := by
  have h := hf.row p (mem_states.mp hp)
  exact mem_states.mpr (h.2 _ (rd_mem h.1 k))
theorem same_sig (hf : Fits acc nx) (h : Inv acc nx r cl) {p q : Int} (hp : p ∈ states acc.length) (hq : q ∈ states acc.length) : sameB nx cl p q = true ↔ sig acc nx (r + 1) p = sig acc nx (r + 1) q := by
  rw [sameB_iff, sig_succ]
  constructor
  · rintro ⟨h0, hk⟩
    have hs := (h.iff p hp q hq).mp h0
    exact ⟨congrFun hs [], fun k => (h.iff _ (succ_state hf hp k) _ (succ_state hf hq k)).mp (hk k)⟩
  · intro hh
    exact ⟨(h.iff p hp q hq).mpr (sig_down (sig_succ.mpr hh)), fun k => (h.iff _ (succ_state hf hp k) _ (succ_state hf hq k)).mpr (hh.2 k)⟩
theorem least_sig (hf : Fits acc nx) (h : Inv acc nx r cl) {q : Nat} (hq : q < acc.length) : 0 ≤ leastF nx cl q ∧ leastF nx cl q ≤ q ∧ sig acc nx (r + 1) (leastF nx cl q) = sig acc nx (r + 1) q ∧ ∀ p : Nat, (p : Int) < leastF nx cl q → sig acc nx (r + 1) p ≠ sig acc nx (r + 1) q := by
  have hqs : (q : Int) ∈ states acc.length := mem_states.mpr (by omega)
  unfold leastF
  cases hfd : (List.range q).find? (fun p : Nat => sameB nx cl (p : Int) (q : Int)) with
  | none =>
    rw [List.find?_eq_none] at hfd
    refine ⟨by simp, by simp, rfl, fun p hp he => ?_⟩
    have hpq : p < q := by simpa using hp
    exact hfd p (List.mem_range.mpr hpq) ((same_sig hf h (mem_states.mpr (by omega)) hqs).mpr he)
  | some m =>
    obtain ⟨hs, i, hi, hm, hno⟩ := List.find?_eq_some_iff_getElem.mp hfd
    have him : i = m := by simpa using hm
    subst him
    have hiq : i < q := by simpa using hi
    refine ⟨by simp, by simp; omega, (same_sig hf h (mem_states.mpr (by simp; omega)) hqs).mp hs, fun p hp he => ?_⟩
    have hpi : p < i := by simpa using hp
    have := hno p hpi
    rw [List.getElem_range, (same_sig hf h (mem_states.mpr (by omega)) hqs).mpr he] at this
    exact absurd this (by decide)
theorem rd_refS (h : Inv acc nx r cl) {q : Int} (hq : q ∈ states acc.length) : rd (refS nx cl) q = leastF nx cl q.toNat := by
  have := mem_states.mp hq
  have hl : (refS nx cl).length = acc.length := by rw [refS_len, h.len]
  rw [rd_at this.1 (by omega)]
  simp [refS]
theorem inv_succ (hf : Fits acc nx) (h : Inv acc nx r cl) : Inv acc nx (r + 1) (refS nx cl) := by
  refine ⟨by rw [refS_len, h.len], fun p hp q hq => ?_⟩
  rw [rd_refS h hp, rd_refS h hq]
  have bp := mem_states.mp hp
  have bq := mem_states.mp hq
  obtain ⟨p0, p1, p2, p3⟩ := least_sig hf h (q := p.toNat) (by omega)
  obtain ⟨q0, q1, q2, q3⟩ := least_sig hf h (q := q.toNat) (by omega)
  rw [Int.toNat_of_nonneg bp.1] at p2 p3
  rw [Int.toNat_of_nonneg bq.1] at q2 q3
  constructor
  · intro he
    rw [← p2, ← q2, he]
  · intro he
    refine Int.le_antisymm ?_ ?_
    · refine Int.not_lt.mp fun hlt => ?_
      refine p3 (leastF nx cl q.toNat).toNat (by rw [Int.toNat_of_nonneg q0]; exact hlt) ?_
      rw [Int.toNat_of_nonneg q0, q2, he]
    · refine Int.not_lt.mp fun hlt => ?_
      refine q3 (leastF nx cl p.toNat).toNat (by rw [Int.toNat_of_nonneg p0]; exact hlt) ?_
      rw [Int.toNat_of_nonneg p0, p2, he]
theorem rep_succ (hf : Fits acc nx) (h : Inv acc nx r cl) : Rep acc nx (r + 1) (refS nx cl) := by
  intro q hq
  have bq := mem_states.mp hq
  obtain ⟨q0, q1, q2, q3⟩ := least_sig hf h (q := q.toNat) (by omega)
  rw [Int.toNat_of_nonneg bq.1] at q2
  rw [rd_refS h hq]
  exact ⟨mem_states.mpr (by omega), q2⟩
theorem iter_inv (hf : Fits acc nx) : ∀ (d r : Nat) (cl : List Int), Inv acc nx r cl → Rep acc nx r cl → Inv acc nx (r + d) (iterS nx d cl) ∧ Rep acc nx (r + d) (iterS nx d cl)
  | 0, r, cl, h, h2 => ⟨h, h2⟩
  | d + 1, r, cl, h, h2 => by
    have := iter_inv hf d (r + 1) (refS nx cl) (inv_succ hf h) (rep_succ hf h)
    rw [show r + 1 + d = r + (d + 1) by omega] at this
    exact this
structure Cls (acc : List Bool) (nx : List (List Int)) (cl : List Int) : Prop where
  len : cl.length = acc.length
  iff : ∀ p ∈ states acc.length, ∀ q ∈ states acc.length, (rd cl p = rd cl q ↔ lang acc nx p = lang acc nx q)
  rep : ∀ q ∈ states acc.length, rd cl q ∈ states acc.length ∧ lang acc nx (rd cl q) = lang acc nx q
theorem cls_good (hf : Fits acc nx) : Cls acc nx (iterS nx (acc.length + 1) (cl0 acc)) := by
  obtain ⟨h1, h2⟩ := iter_inv hf acc.length 1 (refS nx (cl0 acc)) (inv_succ hf inv0) (rep_succ hf inv0)
  have e : iterS nx (acc.length + 1) (cl0 acc) = iterS nx acc.length (refS nx (cl0 acc)) := rfl
  rw [e]
  refine ⟨h1.len, fun p hp q hq => ?_, fun q hq => ?_⟩
  · rw [h1.iff p hp q hq, sig_all hf (by omega) (mem_states.mp hp) (mem_states.mp hq)]
  · obtain ⟨a, b⟩ := h2 q hq
    exact ⟨a, (sig_all hf (by omega) (mem_states.mp a) (mem_states.mp hq)).mp b⟩
def succC (nx : List (List Int)) (cl : List Int) (p : Int) : List Int := (rowOf nx p).map (rd cl)
def rowR (nx : List (List Int)) (cl : List Int) (R : List Int) (p : Int) : List Int := (succC nx cl p).map fun y => (R.idxOf y : Int)
theorem inner_ev (hf : Fits acc nx) (hcl : cl.length = acc.length) (L R : List Int) (i : Nat) (hi : i < L.length) (hp : L[i] ∈ states acc.length) (hpre : adds L (succC nx cl L[i]) <+: R) (hR : R.length ≤ 1100000) (A : List Bool) (B : List (List Int)) (hA : A.length ≤ 1100000) (hB : B.length ≤ 1100000) {out : List Bool × List (List Int)}
    (h : Ev (fun k => spec_l5Minimal.l0 k cl (adds L (succC nx cl L[i])) ((i + 1 : Nat) : Int) acc nx (A ++ [rdOf false acc L[i]]) (B ++ [rowR nx cl R L[i]])) out) :
    ∀ (d j : Nat), j + d = 3 → Ev (fun k => spec_l5Minimal.l1 k cl (adds L ((succC nx cl L[i]).take j)) (i : Int) (((succC nx cl L[i]).take j).map fun y => (R.idxOf y : Int)) (j : Int) acc nx A B) out := by
  generalize hpe : L[i] = p at hp hpre h ⊢
  have hps := mem_states.mp hp
  have hl := hf.len
  have hr : (rd_L1 nx p).length = 3 ∧ ∀ x ∈ rd_L1 nx p, 0 ≤ x ∧ x < (acc.length : Int) := hf.row p hps
  have hsl : (succC nx cl p).length = 3 := by unfold succC; rw [List.length_map]; exact hr.1
  have hpj : ∀ j, adds L ((succC nx cl p).take j) <+: adds L (succC nx cl p) := fun j => by
    conv => rhs; rw [← List.take_append_drop j (succC nx cl p), adds_append]
    exact adds_pre _ _
  have hrdp : ∀ j, rd (adds L ((succC nx cl p).take j)) (i : Int) = p ∧ i < (adds L ((succC nx cl p).take j)).length := fun j => by
    have h1 := adds_pre ((succC nx cl p).take j) L
    have h2 := h1.length_le
    rw [rd_get _ i (by omega)]
    exact ⟨(h1.getElem hi).symm.trans hpe, by omega⟩
  have hRl : ∀ j, (adds L ((succC nx cl p).take j)).length ≤ 1100000 := fun j => Nat.le_trans ((hpj j).trans hpre).length_le hR
  intro d
  induction d with
  | zero =>
    intro j hj
    obtain rfl : j = 3 := by omega
    obtain ⟨e1, e2⟩ := hrdp 3
    refine next ?_
    simp only [spec_l5Minimal.l1, if_neg (show ¬ ((3 : Nat) : Int) < 3 by decide), if_pos (show (0 : Int) ≤ (i : Int) by omega), if_pos (show (i : Int) < ((adds L ((succC nx cl p).take 3)).length : Int) by omega), e1, if_pos hps.1, if_pos hps.2, if_pos (show A.length < 140737488355328 by omega), if_pos (show B.length < 5864062014805 by omega)]
    rw [up1 (by have := hRl 3; omega), List.take_of_length_le (by omega)]
    exact h
  | succ d ih =>
    intro j hj
    obtain ⟨e1, e2⟩ := hrdp j
    have hjr : j < (rd_L1 nx p).length := by rw [hr.1]; omega
    have hy := hr.2 _ (List.getElem_mem hjr)
    have hyr := rd_get (rd_L1 nx p) j hjr
    have hsj : (succC nx cl p)[j]'(by omega) = rd cl (rd (rd_L1 nx p) (j : Int)) := by
      rw [hyr]
      unfold succC
      rw [List.getElem_map]
      rfl
    have hrl : (((succC nx cl p).take j).map fun y => (R.idxOf y : Int)).length ≤ 3 := by rw [List.length_map, List.length_take]; omega
    have IH := ih (j + 1) (by omega)
    have hpj1 := (hpj (j + 1)).trans hpre
    rw [List.take_succ_eq_append_getElem (by omega), hsj, adds_append, List.map_append, List.map_singleton] at IH
    rw [List.take_succ_eq_append_getElem (by omega), hsj, adds_append] at hpj1
    rw [← hyr] at hy
    have hLl := hRl j
    refine next ?_
    simp only [spec_l5Minimal.l1, if_pos (show (j : Int) < 3 by omega), if_pos (show (0 : Int) ≤ (i : Int) by omega), if_pos (show (i : Int) < ((adds L ((succC nx cl p).take j)).length : Int) by omega), e1, if_pos hps.1, if_pos (show p < (nx.length : Int) by omega), if_pos (show (0 : Int) ≤ (j : Int) by omega), if_pos (show (j : Int) < ((rd_L1 nx p).length : Int) by omega), if_pos hy.1, if_pos (show rd (rd_L1 nx p) (j : Int) < (cl.length : Int) by omega)]
    generalize rd cl (rd (rd_L1 nx p) (j : Int)) = y at IH hpj1 ⊢
    generalize hLe : adds L ((succC nx cl p).take j) = L' at IH hpj1 hLl ⊢
    generalize (((succC nx cl p).take j).map fun y => (R.idxOf y : Int)) = row at IH hrl ⊢
    have hadd : adds L' [y] = add L' y := rfl
    rw [hadd] at IH hpj1
    refine (find_ev L' y (by omega)).bind ?_
    by_cases hm : y ∈ L'
    · have hf1 : findOf L' y = (L'.idxOf y : Int) := by unfold findOf; rw [if_pos hm]
      have hge : ¬ findOf L' y < 0 := by rw [hf1]; omega
      simp only [if_neg hge]
      refine (find_ev L' y (by omega)).bind ?_
      simp only [if_pos (show row.length < 17592186044416 by omega)]
      rw [up1 (by omega), hf1]
      rw [add_in hm] at IH hpj1
      rw [idxOf_pre hpj1 hm] at IH
      exact IH
    · have hf1 : findOf L' y < 0 := by unfold findOf; rw [if_neg hm]; decide
      simp only [if_pos hf1, if_pos (show L'.length < 17592186044416 by omega), Option.bind_some]
      rw [add_out hm] at IH hpj1
      refine (find_ev (L' ++ [y]) y (by simp; omega)).bind ?_
      have hm2 : y ∈ L' ++ [y] := by simp
      have hf2 : findOf (L' ++ [y]) y = ((L' ++ [y]).idxOf y : Int) := by unfold findOf; rw [if_pos hm2]
      simp only [if_pos (show row.length < 17592186044416 by omega)]
      rw [up1 (by omega), hf2]
      rw [idxOf_pre hpj1 hm2] at IH
      exact IH
theorem outer_ev (hf : Fits acc nx) (hc : Cls acc nx cl) {L R : List Int} {i : Nat} (h : Runs (succC nx cl) L i R) : R.length ≤ 1100000 → (∀ x ∈ L, x ∈ states acc.length) → i ≤ L.length →
    Ev (fun k => spec_l5Minimal.l0 k cl L (i : Int) acc nx ((L.take i).map (rdOf false acc)) ((L.take i).map (rowR nx cl R))) (R.map (rdOf false acc), R.map (rowR nx cl R)) := by
  induction h with
  | @stop L i h =>
    intro hR hL hi
    refine next ?_
    simp only [spec_l5Minimal.l0, if_neg (show ¬ (i : Int) < (L.length : Int) by omega)]
    rw [List.take_of_length_le h]
    exact ev_some rfl
  | @step L R i h hr ih =>
    intro hR hL hi
    have hp := hL _ (List.getElem_mem h)
    have hL2 : ∀ x ∈ adds L (succC nx cl L[i]), x ∈ states acc.length := fun x hx => by
      rcases mem_adds.mp hx with q | q
      · exact hL x q
      · obtain ⟨z, hz, rfl⟩ := List.mem_map.mp q
        exact (hc.rep z (mem_states.mpr ((hf.row _ (mem_states.mp hp)).2 z hz))).1
    have hpre := adds_pre (succC nx cl L[i]) L
    have IH := ih hR hL2 (by have := hpre.length_le; omega)
    have et : (adds L (succC nx cl L[i])).take (i + 1) = L.take i ++ [L[i]] := by
      obtain ⟨t, ht⟩ := hpre
      rw [← ht, List.take_append_of_le_length (by omega), List.take_succ_eq_append_getElem h]
    rw [et, List.map_append, List.map_append, List.map_singleton, List.map_singleton] at IH
    have hLR := hr.pre.length_le
    have hLl := hpre.length_le
    refine next ?_
    simp only [spec_l5Minimal.l0, if_pos (show (i : Int) < (L.length : Int) by omega)]
    have := inner_ev hf hc.len L R i h hp hr.pre hR _ _ (by simp; omega) (by simp; omega) IH 3 0 (by omega)
    rw [List.take_zero, adds_nil] at this
    simpa using this
theorem spec_min (hf : Fits acc nx) (h1 : 1 ≤ acc.length) (hb : acc.length ≤ 1100000) : ∃ out, Ev (fun k => spec_l5Minimal.f k acc nx) out ∧ IsCan (lang acc nx 0) out := by
  have hc := cls_good hf
  have hev := cls_ev hf hb
  generalize iterS nx (acc.length + 1) (cl0 acc) = cl at hc hev
  have h0 : (0 : Int) ∈ states acc.length := mem_states.mpr (by omega)
  have hc0 := hc.rep 0 h0
  have hdom : ∀ x, x ∈ states acc.length → ∀ y ∈ succC nx cl x, y ∈ states acc.length := fun x hx y hy => by
    obtain ⟨z, hz, rfl⟩ := List.mem_map.mp hy
    exact (hc.rep z (mem_states.mpr ((hf.row _ (mem_states.mp hx)).2 z hz))).1
  obtain ⟨R, hR⟩ := Runs.ends (succ := succC nx cl) (dom := fun x => x ∈ states acc.length) (N := acc.length) hdom (fun s hn hs => card_n acc.length s hn (fun x hx => mem_states.mp (hs x hx))) acc.length [rd cl 0] 0 (by simp) (fun x hx => by rw [List.mem_singleton] at hx; subst hx; exact hc0.1) (by simp) (by omega)
  have hst : ∀ x ∈ R, x ∈ states acc.length := hR.all (p := fun x => x ∈ states acc.length) hdom (fun x hx => by rw [List.mem_singleton] at hx; subst hx; exact hc0.1)
  have hnd : R.Nodup := hR.nodup (by simp)
  have hRl : R.length ≤ acc.length := card_n acc.length R hnd (fun x hx => mem_states.mp (hst x hx))
  have hcls : ∀ x ∈ R, ∃ q ∈ states acc.length, x = rd cl q := by
    refine hR.all (p := fun x => ∃ q ∈ states acc.length, x = rd cl q) ?_ ?_
    · rintro x ⟨q, hq, rfl⟩ y hy
      obtain ⟨z, hz, rfl⟩ := List.mem_map.mp hy
      exact ⟨z, mem_states.mpr ((hf.row _ (mem_states.mp (hc.rep q hq).1)).2 z hz), rfl⟩
    · intro x hx
      rw [List.mem_singleton] at hx
      exact ⟨0, h0, hx⟩
  have hinj : ∀ a ∈ R, ∀ b ∈ R, lang acc nx a = lang acc nx b → a = b := by
    intro a ha b hb hab
    obtain ⟨p, hp, rfl⟩ := hcls a ha
    obtain ⟨q, hq, rfl⟩ := hcls b hb
    rw [(hc.rep p hp).2, (hc.rep q hq).2] at hab
    exact (hc.iff p hp q hq).mpr hab
  have hsm : ∀ x ∈ states acc.length, (succC nx cl x).map (lang acc nx) = lsucc (lang acc nx x) := fun x hx => by
    rw [← succ_lang hf (mem_states.mp hx)]
    unfold succC
    rw [List.map_map]
    exact List.map_congr_left fun z hz => (hc.rep z (mem_states.mpr ((hf.row _ (mem_states.mp hx)).2 z hz))).2
  have hcan := hR.map0 (dom := fun x => x ∈ states acc.length) (succ' := lsucc) (f := lang acc nx) hdom hsm hc0.1
  have hdd : dd (R.map (lang acc nx)) = R.map (lang acc nx) := by rw [dd_inj _ _ hinj, dd_id hnd]
  rw [hdd, hc0.2] at hcan
  refine ⟨(R.map (rdOf false acc), R.map (rowR nx cl R)), ?_, _, hcan, ?_⟩
  · have ho := outer_ev hf hc hR (by omega) (fun x hx => by rw [List.mem_singleton] at hx; subst hx; exact hc0.1) (by simp)
    refine hev.bind ?_
    simp only [if_pos (show (0 : Int) < (cl.length : Int) by have := hc.len; omega)]
    simpa using ho
  · unfold outL
    refine Prod.ext ?_ ?_
    · show R.map _ = _
      rw [List.map_map]
      rfl
    · show R.map (rowR nx cl R) = (R.map (lang acc nx)).map (fun X => (lsucc X).map (fun Y => ((R.map (lang acc nx)).idxOf Y : Int)))
      rw [List.map_map]
      refine List.map_congr_left fun x hx => ?_
      show rowR nx cl R x = (lsucc (lang acc nx x)).map (fun Y => ((R.map (lang acc nx)).idxOf Y : Int))
      rw [← hsm x (hst x hx), List.map_map]
      unfold rowR
      refine List.map_congr_left fun y hy => ?_
      have hyR := hR.closed (fun j _ hj => by omega) x hx y hy
      show (R.idxOf y : Int) = ((R.map (lang acc nx)).idxOf (lang acc nx y) : Int)
      rw [idxOf_inj (lang acc nx) R y (fun b hb h => hinj b hb y hyR h)]
theorem min_same (hf : Fits acc nx) (h1 : 1 ≤ acc.length) (hb : acc.length ≤ 1100000) : Ev (fun k => spec_l5Minimal.f k acc nx) (minD acc nx 0) := by
  obtain ⟨out, h, hc⟩ := spec_min hf h1 hb
  rw [hc.det (min_can hf (st := 0) (by omega))] at h
  exact h
end
end Go.Proofs.Ytogamkblkoobkaa.Can
end
section
namespace Go.Proofs.Ytogamkblkoobkaa.P
open Go.RowKit Go.Proofs.YtogamkblkoobkaaW.PrintWords Go.Proofs.YtogamkblkoobkaaW.PrintLast Go.Proofs.YtogamkblkoobkaaW.PrintMore
attribute [local go_sem] max2_int min2_int max_two min_two max_three min_three max_four min_four
set_option linter.unusedVariables false
set_option linter.unusedSimpArgs false
def impl_minimized.f (l0_0 : List Bool) (l0_1 : List (List Int)) (a1 : Int) : Option (List Bool × List (List Int)) := if l0_1.length = l0_0.length ∧ l0_0.length ≤ 1100000 ∧ (∀ r ∈ l0_1, r.length = 3 ∧ ∀ q ∈ r, 0 ≤ q ∧ q < (l0_0.length : Int)) ∧ 0 ≤ a1 ∧ a1 < (l0_0.length : Int) then some (Mn.minD l0_0 l0_1 a1) else none
theorem impl_minimized.calls (A0_0 : Option Addr) (c0_0 : Nat) (l0_0 : List Bool) (A0_1 : Option Addr) (c0_1 : Nat) (l0_1 : List (List Int)) (a1 : Int) (r1 : List Bool) (r2 : List (List Int)) (w : World) (hr0_0 : Kd.C Kd.bool w A0_0 l0_0.length l0_0) (hc0_0 : l0_0.length ≤ c0_0) (hr0_1 : Kd.C (Kd.slice 3 (Kd.int .i64)) w A0_1 l0_1.length l0_1) (hc0_1 : l0_1.length ≤ c0_1) (h : impl_minimized.f l0_0 l0_1 a1 = some (r1, r2)) :
    Calls Try.prog 56 #[.agg #[.slice A0_0 l0_0.length c0_0, .slice A0_1 l0_1.length c0_1], .int .i64 a1] w fun e w' => ∃ v0_ v1_ : Value, e = .returned (.agg #[v0_, v1_]) ∧ Kd.R Kd.bool 4 w' w.heap.size (fun _ => True) v0_ r1 ∧ Kd.S (Kd.slice 3 (Kd.int .i64)) 67 w' w.heap.size (fun _ => True) v1_ r2 ∧ Below w.heap.size w w' := by
  unfold impl_minimized.f at h
  split at h
  · rename_i hp
    obtain ⟨h1, h2, h3, h4, h5⟩ := hp
    have h := Option.some.inj h
    have e1 : (Mn.minD l0_0 l0_1 a1).1 = r1 := by rw [h]
    have e2 : (Mn.minD l0_0 l0_1 a1).2 = r2 := by rw [h]
    rw [← e1, ← e2]
    exact Wk.minCalls A0_0 c0_0 l0_0 A0_1 c0_1 l0_1 a1 w hr0_0 hr0_1 h1 h2 h3 ⟨h4, h5⟩
  · cases h
end Go.Proofs.Ytogamkblkoobkaa.P
end
section
namespace Go.Proofs.Ytogamkblkoobkaa.P
open Go.RowKit Go.Proofs.YtogamkblkoobkaaW.PrintWords Go.Proofs.YtogamkblkoobkaaW.PrintLast Go.Proofs.YtogamkblkoobkaaW.PrintMore
attribute [local go_sem] max2_int min2_int max_two min_two max_three min_three max_four min_four
set_option linter.unusedVariables false
set_option linter.unusedSimpArgs false
end Go.Proofs.Ytogamkblkoobkaa.P
end
section
namespace Go.Proofs.Ytogamkblkoobkaa.P
open Go.RowKit Go.Proofs.YtogamkblkoobkaaW.PrintWords Go.Proofs.YtogamkblkoobkaaW.PrintLast Go.Proofs.YtogamkblkoobkaaW.PrintMore
attribute [local go_sem] max2_int min2_int max_two min_two max_three min_three max_four min_four
set_option linter.unusedVariables false
set_option linter.unusedSimpArgs false
end Go.Proofs.Ytogamkblkoobkaa.P
end
section
namespace Go.Proofs.Ytogamkblkoobkaa.P
open Go.RowKit Go.Proofs.YtogamkblkoobkaaW.PrintWords Go.Proofs.YtogamkblkoobkaaW.PrintLast Go.Proofs.YtogamkblkoobkaaW.PrintMore
attribute [local go_sem] max2_int min2_int max_two min_two max_three min_three max_four min_four
set_option linter.unusedVariables false
set_option linter.unusedSimpArgs false
end Go.Proofs.Ytogamkblkoobkaa.P
end
section
namespace Go.Proofs.Ytogamkblkoobkaa.Can
open Go.RowKit Go.Proofs.Ytogamkblkoobkaa Go.Proofs.Ytogamkblkoobkaa.P Go.Proofs.Ytogamkblkoobkaa.Wk Go.Proofs.Ytogamkblkoobkaa.Lg Go.Proofs.Ytogamkblkoobkaa.Pl Go.Proofs.Ytogamkblkoobkaa.Mp Go.Proofs.Ytogamkblkoobkaa.Bf Go.Proofs.Ytogamkblkoobkaa.Mn Go.Proofs.YtogamkblkoobkaaW.PrintWords Go.Proofs.YtogamkblkoobkaaW.PrintLast Go.Proofs.YtogamkblkoobkaaW.PrintMore
set_option linter.unusedVariables false
set_option linter.unusedSimpArgs false
set_option linter.unusedSectionVars false
theorem ldF_len : ∀ (m : List Int) (i : Nat) (ns ls : List Int), (ldF m i ns ls).2.length ≤ ls.length + m.length
  | [], i, ns, ls => by simp [ldF]
  | c :: m, i, ns, ls => by
    rw [ldF]
    split
    · have := ldF_len m (i + 1) ns ls
      simp only [List.length_cons]
      omega
    · have := ldF_len m (i + 1) (ns ++ [c]) (ls ++ [(i : Int)])
      simp only [List.length_append, List.length_cons, List.length_nil] at this ⊢
      omega
theorem refF_len (l1 : List (List Int)) (os : List Int) : ∀ (d : Nat) (cl : List Int) (c : Nat), cl.length = os.length → (refF l1 os d cl c).length = os.length
  | 0, cl, c, h => h
  | d + 1, cl, c, h => by
    rw [refF]
    have gl : (nmF (keys l1 os cl) [] []).2.length = os.length := by rw [nm_snd]; simp [keys]
    split
    · exact gl
    · exact refF_len l1 os d _ _ gl
theorem minD_len {acc : List Bool} {l1 : List (List Int)} (hf : Fits acc l1) {st : Int} (hst : 0 ≤ st ∧ st < (acc.length : Int)) : (minD acc l1 st).1.length ≤ acc.length ∧ (minD acc l1 st).2.length = (minD acc l1 st).1.length ∧ ∀ r ∈ (minD acc l1 st).2, r.length = 3 := by
  have h0 : ∀ x ∈ [st], 0 ≤ x ∧ x < (acc.length : Int) := fun x hx => by rw [List.mem_singleton] at hx; subst hx; exact hst
  have hR := ord_runs hf (acc.length + 2) [st] 0 (by simp) h0 (by omega)
  obtain ⟨R, hRR, hout⟩ := min_can hf hst
  have hlen : (minD acc l1 st).1.length ≤ acc.length := by
    unfold minD minT
    generalize ordF l1 (acc.length + 2) [st] 0 = os at hR
    have hn : os.Nodup := hR.nodup (by simp)
    have hdom := hR.all (p := fun x => 0 ≤ x ∧ x < (acc.length : Int)) (fun x hx y hy => (hf.row x hx).2 y hy) h0
    have h1 := refF_len l1 os (os.length + 2) (os.map (cls0 acc)) 0 (by simp)
    have h2 := card_n acc.length os hn hdom
    unfold outD
    simp only [List.length_map]
    have := ldF_len (refF l1 os (os.length + 2) (os.map (cls0 acc)) 0) 0 [] []
    simp only [List.length_nil] at this
    omega
  refine ⟨hlen, ?_, ?_⟩
  · rw [hout]
    simp [outL]
  · rw [hout]
    intro r hr
    unfold outL at hr
    obtain ⟨X, _, rfl⟩ := List.mem_map.mp hr
    simp [lsucc]
theorem fits_valid {a : List Bool} {n : List (List Int)} (hv : validD a n = true) : Fits a n := by
  obtain ⟨h1, h2, h3, h4⟩ := validD_facts hv
  refine ⟨h3, fun q hq => ?_⟩
  have hlt : q.toNat < n.length := by omega
  unfold rowOf
  rw [List.getD_eq_getElem?_getD, List.getElem?_eq_getElem hlt]
  exact h4 _ (List.getElem_mem hlt)
end Go.Proofs.Ytogamkblkoobkaa.Can
end
section
namespace Go.Proofs.Ytogamkblkoobkaa.P
open Go.RowKit Go.Proofs.YtogamkblkoobkaaW.PrintWords Go.Proofs.YtogamkblkoobkaaW.PrintLast Go.Proofs.YtogamkblkoobkaaW.PrintMore
attribute [local go_sem] max2_int min2_int max_two min_two max_three min_three max_four min_four
set_option linter.unusedVariables false
set_option linter.unusedSimpArgs false
end Go.Proofs.Ytogamkblkoobkaa.P
end
section
namespace Go.Proofs.Ytogamkblkoobkaa.P
open Go.RowKit Go.Proofs.YtogamkblkoobkaaW.PrintWords Go.Proofs.YtogamkblkoobkaaW.PrintLast Go.Proofs.YtogamkblkoobkaaW.PrintMore
attribute [local go_sem] max2_int min2_int max_two min_two max_three min_three max_four min_four
set_option linter.unusedVariables false
set_option linter.unusedSimpArgs false
end Go.Proofs.Ytogamkblkoobkaa.P
end
section
namespace Go.Proofs.Ytogamkblkoobkaa.P
open Go.RowKit Go.Proofs.YtogamkblkoobkaaW.PrintWords Go.Proofs.YtogamkblkoobkaaW.PrintLast Go.Proofs.YtogamkblkoobkaaW.PrintMore
attribute [local go_sem] max2_int min2_int max_two min_two max_three min_three max_four min_four
set_option linter.unusedVariables false
set_option linter.unusedSimpArgs false
end Go.Proofs.Ytogamkblkoobkaa.P
end
section
namespace Go.Proofs.Ytogamkblkoobkaa.P
open Go.RowKit Go.Proofs.YtogamkblkoobkaaW.PrintWords Go.Proofs.YtogamkblkoobkaaW.PrintLast Go.Proofs.YtogamkblkoobkaaW.PrintMore
attribute [local go_sem] max2_int min2_int max_two min_two max_three min_three max_four min_four
set_option linter.unusedVariables false
set_option linter.unusedSimpArgs false
end Go.Proofs.Ytogamkblkoobkaa.P
end
section
namespace Go.Proofs.Ytogamkblkoobkaa.P
open Go.RowKit Go.Proofs.YtogamkblkoobkaaW.PrintWords Go.Proofs.YtogamkblkoobkaaW.PrintLast Go.Proofs.YtogamkblkoobkaaW.PrintMore
attribute [local go_sem] max2_int min2_int max_two min_two max_three min_three max_four min_four
set_option linter.unusedVariables false
set_option linter.unusedSimpArgs false
end Go.Proofs.Ytogamkblkoobkaa.P
end
section
namespace Go.Proofs.Ytogamkblkoobkaa.Bf
open Go.RowKit Go.Proofs.Ytogamkblkoobkaa.Pl Go.Proofs.Ytogamkblkoobkaa.Mp Go.Proofs.YtogamkblkoobkaaW.PrintWords Go.Proofs.YtogamkblkoobkaaW.PrintLast Go.Proofs.YtogamkblkoobkaaW.PrintMore
set_option linter.unusedVariables false
set_option linter.unusedSimpArgs false
set_option linter.unusedSectionVars false
section
variable {α : Type} [DecidableEq α] {nx : α → Nat → α} {x0 : α} {dom : α → Prop} {N : Nat} {good : α → Bool}
end
end Go.Proofs.Ytogamkblkoobkaa.Bf
end
section
namespace Go.Proofs.Ytogamkblkoobkaa.Can
open Go.RowKit Go.Proofs.Ytogamkblkoobkaa Go.Proofs.Ytogamkblkoobkaa.P Go.Proofs.Ytogamkblkoobkaa.Wk Go.Proofs.Ytogamkblkoobkaa.Lg Go.Proofs.Ytogamkblkoobkaa.Pl Go.Proofs.Ytogamkblkoobkaa.Mp Go.Proofs.Ytogamkblkoobkaa.Bf Go.Proofs.Ytogamkblkoobkaa.Mn Go.Proofs.YtogamkblkoobkaaW.PrintWords Go.Proofs.YtogamkblkoobkaaW.PrintLast Go.Proofs.YtogamkblkoobkaaW.PrintMore
set_option linter.unusedVariables false
set_option linter.unusedSimpArgs false
set_option linter.unusedSectionVars false
def Rows3 (n : Nat) (nx : List (List Int)) : Prop := nx.length = n ∧ ∀ r ∈ nx, r.length = 3 ∧ ∀ q ∈ r, 0 ≤ q ∧ q < (n : Int)
theorem fits_rows {acc : List Bool} {nx : List (List Int)} (h : Rows3 acc.length nx) : Fits acc nx := by
  refine ⟨h.1, fun q hq => ?_⟩
  have hlt : q.toNat < nx.length := by have := h.1; omega
  unfold rowOf
  rw [List.getD_eq_getElem?_getD, List.getElem?_eq_getElem hlt]
  exact h.2 _ (List.getElem_mem hlt)
theorem outL_rows {L : Lan} {R : List Lan} (hR : Runs lsucc [L] 0 R) : Rows3 (outL R).1.length (outL R).2 := by
  have hcl := hR.closed (fun j _ hj => by omega)
  have hlen : (outL R).1.length = R.length := by simp [outL]
  refine ⟨by simp [outL], fun r hr => ?_⟩
  obtain ⟨X, hX, rfl⟩ := List.mem_map.mp hr
  refine ⟨by simp [lsucc], fun q hq => ?_⟩
  obtain ⟨Y, hY, rfl⟩ := List.mem_map.mp hq
  have := List.idxOf_lt_length_of_mem (hcl X hX Y hY)
  rw [hlen]
  omega
theorem outL_run {L : Lan} {R : List Lan} (hR : Runs lsucc [L] 0 R) : ∀ (w : List (Fin 3)) (i : Nat) (hi : i < R.length), run (outL R).1 (outL R).2 w (i : Int) = R[i] w := by
  have hcl := hR.closed (fun j _ hj => by omega)
  intro w
  induction w with
  | nil =>
    intro i hi
    show rdOf false (R.map eps) (i : Int) = _
    rw [rdOf_get false _ i (by simpa using hi), List.getElem_map]
    rfl
  | cons k w ih =>
    intro i hi
    show run _ _ w (rd (rowOf (outL R).2 (i : Int)) (k.val : Int)) = _
    have hrow : rowOf (outL R).2 (i : Int) = (lsucc R[i]).map (fun Y => (R.idxOf Y : Int)) := by
      unfold rowOf outL
      rw [Int.toNat_natCast, List.getD_eq_getElem?_getD, List.getElem?_eq_getElem (by simpa using hi), Option.getD_some, List.getElem_map]
    have hk : rd ((lsucc R[i]).map (fun Y => (R.idxOf Y : Int))) (k.val : Int) = (R.idxOf (der R[i] k) : Int) := by
      match k with
      | 0 => rfl
      | 1 => rfl
      | 2 => rfl
    have hm : der R[i] k ∈ R := by
      refine hcl _ (List.getElem_mem hi) _ ?_
      match k with
      | 0 => simp [lsucc]
      | 1 => simp [lsucc]
      | 2 => simp [lsucc]
    rw [hrow, hk, ih _ (List.idxOf_lt_length_of_mem hm), List.getElem_idxOf (List.idxOf_lt_length_of_mem hm)]
    rfl
theorem IsCan.facts {L : Lan} {out : List Bool × List (List Int)} (h : IsCan L out) : 1 ≤ out.1.length ∧ Rows3 out.1.length out.2 ∧ lang out.1 out.2 0 = L := by
  obtain ⟨R, hR, rfl⟩ := h
  obtain ⟨t, rfl⟩ := hR.pre
  refine ⟨by simp [outL], outL_rows hR, funext fun w => ?_⟩
  exact outL_run hR w 0 (by simp)
theorem valid_of {acc : List Bool} {nx : List (List Int)} (h1 : 1 ≤ acc.length) (h2 : acc.length ≤ 40) (h3 : Rows3 acc.length nx) : validD acc nx = true := by
  unfold validD
  rw [decide_eq_true h1, decide_eq_true h2, decide_eq_true h3.1, Bool.and_self, Bool.and_self, Bool.true_and, Bool.not_eq_true', List.any_eq_false]
  intro r hr
  obtain ⟨h4, h5⟩ := h3.2 r hr
  unfold badRow
  rw [Bool.not_eq_true, Bool.or_eq_false_iff]
  refine ⟨decide_eq_false (by omega), ?_⟩
  rw [List.any_eq_false]
  intro q hq
  obtain ⟨h6, h7⟩ := h5 q hq
  unfold badState
  rw [decide_eq_true h6, decide_eq_true (show q ≤ (acc.length : Int) - 1 by omega)]
  decide
section
variable {a b : List Bool} {n m : List (List Int)}
theorem pair_dom (hv : validD a n = true) (hw : validD b m = true) : ∀ (x : Pr) (j : Nat), ((0 ≤ x.1 ∧ x.1 < (a.length : Int)) ∧ 0 ≤ x.2 ∧ x.2 < (b.length : Int)) → j < 3 → ((0 ≤ (nxP n m x j).1 ∧ (nxP n m x j).1 < (a.length : Int)) ∧ 0 ≤ (nxP n m x j).2 ∧ (nxP n m x j).2 < (b.length : Int)) := by
  intro x j hx hj
  have f1 := (fits_valid hv).row x.1 hx.1
  have f2 := (fits_valid hw).row x.2 hx.2
  refine ⟨f1.2 _ ?_, f2.2 _ ?_⟩
  · show rd (rowOf n x.1) (j : Int) ∈ rowOf n x.1
    rw [rd_get _ j (by omega)]
    exact List.getElem_mem _
  · show rd (rowOf m x.2) (j : Int) ∈ rowOf m x.2
    rw [rd_get _ j (by omega)]
    exact List.getElem_mem _
end
end Go.Proofs.Ytogamkblkoobkaa.Can
end
section
namespace Go.Proofs.Ytogamkblkoobkaa.Can
open Go.RowKit Go.Proofs.Ytogamkblkoobkaa Go.Proofs.Ytogamkblkoobkaa.P Go.Proofs.Ytogamkblkoobkaa.Wk Go.Proofs.Ytogamkblkoobkaa.Lg Go.Proofs.Ytogamkblkoobkaa.Pl Go.Proofs.Ytogamkblkoobkaa.Mp Go.Proofs.Ytogamkblkoobkaa.Bf Go.Proofs.Ytogamkblkoobkaa.Mn Go.Proofs.YtogamkblkoobkaaW.PrintWords Go.Proofs.YtogamkblkoobkaaW.PrintLast Go.Proofs.YtogamkblkoobkaaW.PrintMore
set_option linter.unusedVariables false
set_option linter.unusedSimpArgs false
set_option linter.unusedSectionVars false
section
variable {α : Type} [DecidableEq α] {nx : α → Nat → α} {acc : α → Bool} {most : Nat}
def tl (nx : α → Nat → α) (x : α) : Nat → Nat → List α
  | 0, _ => []
  | d + 1, j => nx x j :: tl nx x d (j + 1)
def sc (nx : α → Nat → α) (x : α) : List α := tl nx x 3 0
def num (L : List α) (y : α) : Int := (idx L y).getD 0
theorem num_eq {L : List α} {y : α} (h : y ∈ L) : num L y = (L.idxOf y : Int) := by
  unfold num idx
  rw [if_pos h]
  rfl
theorem num_pre {L R : List α} {y : α} (h : y ∈ L) (hp : L <+: R) : num R y = num L y := by
  obtain ⟨t, rfl⟩ := hp
  rw [num_eq h, num_eq (List.mem_append_left _ h), List.idxOf_append, if_pos h]
theorem num_last {L : List α} {y : α} (h : y ∉ L) : num (L ++ [y]) y = (L.length : Int) := by
  rw [num_eq (by simp), List.idxOf_append, if_neg h]
  simp
theorem exRow_some {x : α} : ∀ (d j : Nat) (L : List α) (row : List Int) (L' : List α) (row' : List Int), exRow nx most x d j L row = some (L', row') → L' = adds L (tl nx x d j) ∧ row' = row ++ (tl nx x d j).map (num L') ∧ (L.length ≤ most → L'.length ≤ most)
  | 0, j, L, row, L', row', h => by
    rw [exRow] at h
    obtain ⟨rfl, rfl⟩ := Prod.mk.inj (Option.some.inj h)
    exact ⟨rfl, by simp [tl], id⟩
  | d + 1, j, L, row, L', row', h => by
    rw [exRow] at h
    by_cases hm : nx x j ∈ L
    · rw [if_pos hm] at h
      obtain ⟨h1, h2, h3⟩ := exRow_some d (j + 1) L _ L' row' h
      refine ⟨by rw [tl, adds_cons, add_in hm]; exact h1, ?_, h3⟩
      rw [h2, tl, List.map_cons, List.append_assoc, List.singleton_append]
      have : num L' (nx x j) = num L (nx x j) := num_pre hm (by rw [h1]; exact adds_pre _ _)
      rw [this]
      rfl
    · rw [if_neg hm] at h
      by_cases ho : most < L.length + 1
      · rw [if_pos ho] at h
        cases h
      · rw [if_neg ho] at h
        obtain ⟨h1, h2, h3⟩ := exRow_some d (j + 1) _ _ L' row' h
        refine ⟨by rw [tl, adds_cons, add_out hm]; exact h1, ?_, fun _ => h3 (by simp; omega)⟩
        rw [h2, tl, List.map_cons, List.append_assoc, List.singleton_append]
        have : num L' (nx x j) = num (L ++ [nx x j]) (nx x j) := num_pre (by simp) (by rw [h1]; exact adds_pre _ _)
        rw [this, num_last hm]
theorem exRow_none {x : α} : ∀ (d j : Nat) (L : List α) (row : List Int), exRow nx most x d j L row = none → most < (adds L (tl nx x d j)).length
  | 0, j, L, row, h => by rw [exRow] at h; cases h
  | d + 1, j, L, row, h => by
    rw [exRow] at h
    rw [tl, adds_cons]
    by_cases hm : nx x j ∈ L
    · rw [if_pos hm] at h
      rw [add_in hm]
      exact exRow_none d (j + 1) L _ h
    · rw [if_neg hm] at h
      rw [add_out hm]
      by_cases ho : most < L.length + 1
      · have := (adds_pre (tl nx x d (j + 1)) (L ++ [nx x j])).length_le
        simp only [List.length_append, List.length_cons, List.length_nil] at this
        omega
      · rw [if_neg ho] at h
        exact exRow_none d (j + 1) _ _ h
def rowX (nx : α → Nat → α) (R : List α) (x : α) : List Int := (sc nx x).map (num R)
structure ExInv (acc : α → Bool) (nx : α → Nat → α) (p : Ex α) (i : Nat) : Prop where
  a : p.2.1 = (p.1.take i).map acc
  m : p.2.2 = (p.1.take i).map (rowX nx p.1)
  c : ∀ x ∈ p.1.take i, ∀ y ∈ sc nx x, y ∈ p.1
theorem inv_step {p : Ex α} {i : Nat} (h : ExInv acc nx p i) (hi : i < p.1.length) {L' : List α} {row' : List Int} (h1 : L' = adds p.1 (sc nx p.1[i])) (h2 : row' = (sc nx p.1[i]).map (num L')) : ExInv acc nx (L', p.2.1 ++ [acc p.1[i]], p.2.2 ++ [row']) (i + 1) := by
  have hpre : p.1 <+: L' := by rw [h1]; exact adds_pre _ _
  have ht : L'.take (i + 1) = p.1.take i ++ [p.1[i]] := by
    rw [← List.take_succ_eq_append_getElem hi]
    obtain ⟨t, rfl⟩ := hpre
    rw [List.take_append_of_le_length (by omega)]
  refine ⟨?_, ?_, ?_⟩
  · show p.2.1 ++ [acc p.1[i]] = (L'.take (i + 1)).map acc
    rw [ht, List.map_append, ← h.a, List.map_singleton]
  · show p.2.2 ++ [row'] = (L'.take (i + 1)).map (rowX nx L')
    rw [ht, List.map_append, List.map_singleton, h.m, h2]
    congr 1
    refine List.map_congr_left fun x hx => ?_
    unfold rowX
    refine List.map_congr_left fun y hy => ?_
    exact (num_pre (h.c x hx y hy) hpre).symm
  · show ∀ x ∈ L'.take (i + 1), ∀ y ∈ sc nx x, y ∈ L'
    rw [ht]
    intro x hx y hy
    rcases List.mem_append.mp hx with hx | hx
    · exact hpre.subset (h.c x hx y hy)
    · rw [List.mem_singleton] at hx
      subst hx
      rw [h1]
      exact mem_adds.mpr (Or.inr hy)
theorem expl_some : ∀ (d : Nat) (p : Ex α) (i : Nat) (q : Ex α), most + 2 ≤ d + i → p.1.length ≤ most → i ≤ p.1.length → ExInv acc nx p i → expl acc nx most d p i = some q → Runs (sc nx) p.1 i q.1 ∧ q.1.length ≤ most ∧ q.2.1 = q.1.map acc ∧ q.2.2 = q.1.map (rowX nx q.1)
  | 0, p, i, q, hd, hp, hi, _, _ => by omega
  | d + 1, p, i, q, hd, hp, hi, hv, h => by
    rw [expl] at h
    by_cases hlt : i < p.1.length
    · rw [dif_pos hlt] at h
      obtain ⟨⟨L', row'⟩, he, h⟩ := Option.bind_eq_some_iff.mp h
      obtain ⟨h1, h2, h3⟩ := exRow_some 3 0 p.1 [] L' row' he
      obtain ⟨g1, g2⟩ := expl_some d _ (i + 1) q (by omega) (h3 hp) (by
        have : p.1.length ≤ L'.length := by rw [h1]; exact (adds_pre _ _).length_le
        show i + 1 ≤ L'.length
        omega) (inv_step hv hlt h1 (by rw [h2, List.nil_append]; rfl)) h
      refine ⟨.step hlt ?_, g2⟩
      have : L' = adds p.1 (sc nx p.1[i]) := h1
      rw [← this]
      exact g1
    · rw [dif_neg hlt] at h
      have h := Option.some.inj h
      subst h
      have ht : p.1.take i = p.1 := List.take_of_length_le (by omega)
      exact ⟨.stop (by omega), hp, by rw [hv.a, ht], by rw [hv.m, ht]⟩
theorem expl_none : ∀ (d : Nat) (p : Ex α) (i : Nat) (R : List α), expl acc nx most d p i = none → Runs (sc nx) p.1 i R → most < R.length
  | 0, p, i, R, h, _ => by rw [expl] at h; cases h
  | d + 1, p, i, R, h, hR => by
    rw [expl] at h
    by_cases hlt : i < p.1.length
    · rw [dif_pos hlt] at h
      cases hR with
      | stop h' => omega
      | step _ hR =>
        cases he : exRow nx most p.1[i] 3 0 p.1 [] with
        | none =>
          have h1 := exRow_none 3 0 p.1 [] he
          have h2 := hR.pre.length_le
          have : adds p.1 (sc nx p.1[i]) = adds p.1 (tl nx p.1[i] 3 0) := rfl
          rw [this] at h2
          omega
        | some q =>
          rw [he] at h
          obtain ⟨h1, h2, h3⟩ := exRow_some 3 0 p.1 [] q.1 q.2 he
          refine expl_none d _ (i + 1) R h ?_
          have : q.1 = adds p.1 (sc nx p.1[i]) := h1
          show Runs (sc nx) q.1 (i + 1) R
          rw [this]
          exact hR
    · rw [dif_neg hlt] at h
      cases h
def Auto (acc : α → Bool) (nx : α → Nat → α) (x0 : α) (A : List Bool) (M : List (List Int)) : Prop := ∃ R, Runs (sc nx) [x0] 0 R ∧ A = R.map acc ∧ M = R.map (rowX nx R)
theorem expl_auto {x0 : α} {q : Ex α} (h1 : 1 ≤ most) (h : expl acc nx most (most + 2) ([x0], [], []) 0 = some q) : Auto acc nx x0 q.2.1 q.2.2 ∧ q.2.1.length ≤ most := by
  obtain ⟨g1, g2, g3, g4⟩ := expl_some (most + 2) ([x0], [], []) 0 q (by omega) h1 (by simp) ⟨rfl, rfl, fun x hx => by simp at hx⟩ h
  exact ⟨⟨q.1, g1, g3, g4⟩, by rw [g3, List.length_map]; exact g2⟩
theorem Auto.rows {x0 : α} {A : List Bool} {M : List (List Int)} (h : Auto acc nx x0 A M) : 1 ≤ A.length ∧ Rows3 A.length M := by
  obtain ⟨R, hR, rfl, rfl⟩ := h
  have hcl := hR.closed (fun j _ hj => by omega)
  have hp := hR.pre.length_le
  refine ⟨by rw [List.length_map]; exact hp, by simp, fun r hr => ?_⟩
  obtain ⟨x, hx, rfl⟩ := List.mem_map.mp hr
  refine ⟨by simp [rowX, sc, tl], fun q hq => ?_⟩
  obtain ⟨y, hy, rfl⟩ := List.mem_map.mp hq
  have hm := hcl x hx y hy
  have := List.idxOf_lt_length_of_mem hm
  rw [num_eq hm, List.length_map]
  omega
theorem Auto.lang {x0 : α} {A : List Bool} {M : List (List Int)} (h : Auto acc nx x0 A M) (lam : α → Lan) {dom : α → Prop} (hd0 : dom x0) (hdn : ∀ x, dom x → ∀ y ∈ sc nx x, dom y) (he : ∀ x, dom x → lam x [] = acc x) (hs : ∀ x, dom x → ∀ (k : Fin 3) w, lam x (k :: w) = lam (nx x k.val) w) : lang A M 0 = lam x0 := by
  obtain ⟨R, hR, rfl, rfl⟩ := h
  have hcl := hR.closed (fun j _ hj => by omega)
  have hall := hR.all (p := dom) hdn (fun x hx => by rw [List.mem_singleton] at hx; subst hx; exact hd0)
  have H : ∀ (w : List (Fin 3)) (i : Nat) (hi : i < R.length), run (R.map acc) (R.map (rowX nx R)) w (i : Int) = lam R[i] w := by
    intro w
    induction w with
    | nil =>
      intro i hi
      show rdOf false (R.map acc) (i : Int) = _
      rw [rdOf_get false _ i (by simpa using hi), List.getElem_map, he _ (hall _ (List.getElem_mem hi))]
    | cons k w ih =>
      intro i hi
      show run _ _ w (rd (rowOf (R.map (rowX nx R)) (i : Int)) (k.val : Int)) = _
      have hrow : rowOf (R.map (rowX nx R)) (i : Int) = rowX nx R R[i] := by
        unfold rowOf
        rw [Int.toNat_natCast, List.getD_eq_getElem?_getD, List.getElem?_eq_getElem (by simpa using hi), Option.getD_some, List.getElem_map]
      have hk : rd (rowX nx R R[i]) (k.val : Int) = num R (nx R[i] k.val) := by
        match k with
        | 0 => rfl
        | 1 => rfl
        | 2 => rfl
      have hm : nx R[i] k.val ∈ R := by
        refine hcl _ (List.getElem_mem hi) _ ?_
        match k with
        | 0 => simp [sc, tl]
        | 1 => simp [sc, tl]
        | 2 => simp [sc, tl]
      have hlt := List.idxOf_lt_length_of_mem hm
      rw [hrow, hk, num_eq hm, ih _ hlt, List.getElem_idxOf hlt, hs _ (hall _ (List.getElem_mem hi))]
  obtain ⟨t, rfl⟩ := hR.pre
  exact funext fun w => H w 0 (by simp)
end
def fitD (A : List Bool) (M : List (List Int)) : List Bool × List (List Int) × Bool := if (minD A M 0).1.length ≤ 40 then ((minD A M 0).1, (minD A M 0).2, true) else ([], [], false)
theorem fitD_lang {A B : List Bool} {M K : List (List Int)} (hA : 1 ≤ A.length) (hM : Rows3 A.length M) (hB : 1 ≤ B.length) (hK : Rows3 B.length K) (h : lang A M 0 = lang B K 0) : fitD A M = fitD B K := by
  have e : minD A M 0 = minD B K 0 := by
    have c := min_can (fits_rows hM) (st := 0) (by omega)
    rw [h] at c
    exact c.det (min_can (fits_rows hK) (st := 0) (by omega))
  unfold fitD
  rw [e]
theorem fitD_len {A : List Bool} {M : List (List Int)} (hA : 1 ≤ A.length) (hM : Rows3 A.length M) : (fitD A M).1.length ≤ 40 ∧ (fitD A M).2.1.length ≤ 40 ∧ ∀ r ∈ (fitD A M).2.1, r.length = 3 := by
  unfold fitD
  obtain ⟨l1, l2, l3⟩ := minD_len (fits_rows hM) (st := 0) (by omega)
  by_cases h : (minD A M 0).1.length ≤ 40
  · rw [if_pos h]
    exact ⟨h, by show (minD A M 0).2.length ≤ 40; omega, l3⟩
  · rw [if_neg h]
    simp
end Go.Proofs.Ytogamkblkoobkaa.Can
end
section
namespace Go.Proofs.Ytogamkblkoobkaa.P
open Go.RowKit Go.Proofs.YtogamkblkoobkaaW.PrintWords Go.Proofs.YtogamkblkoobkaaW.PrintLast Go.Proofs.YtogamkblkoobkaaW.PrintMore
attribute [local go_sem] max2_int min2_int max_two min_two max_three min_three max_four min_four
set_option linter.unusedVariables false
set_option linter.unusedSimpArgs false
def impl_fitting.f (l0_0 : List Bool) (l0_1 : List (List Int)) : Option (List Bool × (List (List Int)) × Bool) := (impl_minimized.f l0_0 l0_1 0).bind fun bt276 => (if (bt276.1.length : Int) > 40 then (some (([] : List Bool), ([] : List (List Int)), false)) else (some (bt276.1, bt276.2, true)))
set_option maxHeartbeats 8000000 in
set_option maxRecDepth 100000 in
theorem impl_fitting.calls (A0_0 : Option Addr) (c0_0 : Nat) (l0_0 : List Bool) (A0_1 : Option Addr) (c0_1 : Nat) (l0_1 : List (List Int)) (r1 : List Bool) (r2 : List (List Int)) (r3 : Bool) (w : World) (hr0_0 : Kd.C Kd.bool w A0_0 l0_0.length l0_0) (hc0_0 : l0_0.length ≤ c0_0) (hr0_1 : Kd.C (Kd.slice 3 (Kd.int .i64)) w A0_1 l0_1.length l0_1) (hc0_1 : l0_1.length ≤ c0_1) (h : impl_fitting.f l0_0 l0_1 = some (r1, r2, r3)) :
  Calls Try.prog 68 #[.agg #[.slice A0_0 l0_0.length c0_0, .slice A0_1 l0_1.length c0_1]] w fun e w' => ∃ v0_ v1_ : Value, e = .returned (.tuple #[.agg #[v0_, v1_], .bool r3]) ∧ Kd.R Kd.bool 4 w' w.heap.size (fun _ => True) v0_ r1 ∧ Kd.S (Kd.slice 3 (Kd.int .i64)) 67 w' w.heap.size (fun _ => True) v1_ r2 ∧ Below w.heap.size w w' := by
 have hu27 := Try.underlying27
 have HR0_0 := Aside0.mk hr0_0
 have HC0_0 := Aside0.mk hc0_0
 clear hr0_0 hc0_0
 have HR0_1 := Aside0.mk hr0_1
 have HC0_1 := Aside0.mk hc0_1
 clear hr0_1 hc0_1
 have HB := Aside0.mk (Below.refl w.heap.size w)
 have H : ((impl_minimized.f l0_0 l0_1 0).bind fun bt276 => (if (bt276.1.length : Int) > 40 then (some (([] : List Bool), ([] : List (List Int)), false)) else (some (bt276.1, bt276.2, true)))) = some (r1, r2, r3) := h
 clear h
 replace H := Option.bind_eq_some_iff.mp H
 obtain ⟨⟨t276, t279⟩, A20, H⟩ := H
 replace H : (if (t276.length : Int) > 40 then (some (([] : List Bool), ([] : List (List Int)), false)) else (some (t276, t279, true))) = some (r1, r2, r3) := H
 have A2 := Aside0.mk A20
 clear A20
 by_cases c3 : (t276.length : Int) > 40
 ·rw [if_pos c3] at H
  have c3b0 : decide (40 < (t276.length : Int)) = true := decide_eq_true c3
  have c3b1 : decide (40 < t276.length) = true := decide_eq_true (by omega)
  clear c3
  simp only [Option.some.injEq, Prod.mk.injEq] at H
  obtain ⟨rfl, rfl, rfl⟩ := H
  go_enter Try.func68, Try.ntmps68
  go_wp2_with (first | ((with_reducible refine gate_dst (N := 1) rfl ?_); refine box_event ?hg (N := 1) ?hd (cs := #[.slice A0_0 l0_0.length c0_0, .slice A0_1 l0_1.length c0_1]) (t := 27) ?hr ?_; (case hd => rfl); (case hg => rfl); (case hr => first | (go_simp; done) | (go_simp; rfl)); intro gb274 hg w4 hbox hb; have n0_ := Aside0.mk (below_step (by repeat (first | (with_reducible first | exact HB.out | apply below_alloc | apply pw_below_drewN | apply below_drew1) | exact HB.out)) hb); have n1_ := Aside0.mk (hbox); have n2_ := Aside0.mk ((by rw [hg]; exact (below_size (by repeat (first | (with_reducible first | exact HB.out | apply below_alloc | apply pw_below_drewN | apply below_drew1) | exact HB.out))) : w.heap.size ≤ gb274)); have n3_ := Aside0.mk ((by rw [hg]; exact (below_size (by repeat (first | (with_reducible first | exact HB.out | apply below_alloc | apply pw_below_drewN | apply below_drew1) | exact HB.out))) : w.heap.size ≤ gb274)); clear HB; have HB := n0_; have BK274 := n1_; have GW274 := n2_; have GE274 := n3_; clear n0_ n1_ n2_ n3_; clear hb hbox hg) | ((with_reducible refine gate_dst (N := 2) rfl ?_); refine box_event ?hg (N := 2) ?hd (cs := #[.slice none 0 0, .slice none 0 0]) (t := 27) ?hr ?_; (case hd => rfl); (case hg => rfl); (case hr => first | (go_simp; done) | (go_simp; rfl)); intro gb275 hg w5 hbox hb; have n0_ := Aside0.mk (blk_below (g := gb274) (o := .cells #[.slice A0_0 l0_0.length c0_0, .slice A0_1 l0_1.length c0_1] 27 (0, 0)) (by (with_reducible repeat (first | refine blk_drewN ?_ _ | refine blk_drew ?_ | refine blk_alloc ?_ _)); exact BK274.out) hb); have n1_ := Aside0.mk (below_step (by repeat (first | (with_reducible first | exact HB.out | apply below_alloc | apply pw_below_drewN | apply below_drew1 | refine below_set ?_ GE274.out) | exact HB.out)) hb); have n2_ := Aside0.mk (hbox); have n3_ := Aside0.mk ((by rw [hg]; exact (below_size (by repeat (first | (with_reducible first | exact HB.out | apply below_alloc | apply pw_below_drewN | apply below_drew1 | refine below_set ?_ GE274.out) | exact HB.out))) : w.heap.size ≤ gb275)); have n4_ := Aside0.mk ((by rw [hg]; exact (below_size (by repeat (first | (with_reducible first | exact HB.out | apply below_alloc | apply pw_below_drewN | apply below_drew1 | refine below_set ?_ GE274.out) | exact HB.out))) : w.heap.size ≤ gb275)); have n5_ := Aside0.mk ((by rw [hg]; exact Nat.ne_of_lt (blk_lt (g := gb274) (o := .cells #[.slice A0_0 l0_0.length c0_0, .slice A0_1 l0_1.length c0_1] 27 (0, 0)) (by (with_reducible repeat (first | refine blk_drewN ?_ _ | refine blk_drew ?_ | refine blk_alloc ?_ _)); exact BK274.out)) : gb274 ≠ gb275)); have n6_ := Aside0.mk ((by rw [hg]; exact Nat.ne_of_gt (blk_lt (g := gb274) (o := .cells #[.slice A0_0 l0_0.length c0_0, .slice A0_1 l0_1.length c0_1] 27 (0, 0)) (by (with_reducible repeat (first | refine blk_drewN ?_ _ | refine blk_drew ?_ | refine blk_alloc ?_ _)); exact BK274.out)) : gb275 ≠ gb274)); clear BK274; clear HB; have BK274 := n0_; have HB := n1_; have BK275 := n2_; have GW275 := n3_; have GE275 := n4_; have NB274_275 := n5_; have NB275_274 := n6_; clear n0_ n1_ n2_ n3_ n4_ n5_ n6_; clear hb hbox hg; have hnb6 := NB274_275.out; have hnc6 := NB275_274.out; have hcz7_0 : w5.cell? ⟨gb274, 0, none⟩ = some (.slice A0_0 l0_0.length c0_0) := (blk_cell BK274.out 0).trans rfl; have hcz7_1 : w5.cell? ⟨gb274, 1, none⟩ = some (.slice A0_1 l0_1.length c0_1) := (blk_cell BK274.out 1).trans rfl; have hfz7_0 := blk_frozen BK274.out 0; have hfz7_1 := blk_frozen BK274.out 1) | ((with_reducible refine gate_callee (f := 56) rfl ?_); refine goesL_ (some 6) rfl rfl Try.func56 (by kernel_rfl) rfl #[.agg #[.slice A0_0 l0_0.length c0_0, .slice A0_1 l0_1.length c0_1], .int .i64 0] rfl (by (try simp only [List.map_toArray, List.map_cons, List.map_nil]); first | done | rfl | (simp only [List.length_drop, List.length_take]; rfl)) ?_; (with_reducible refine (impl_minimized.calls _ _ l0_0 _ _ l0_1 0 t276 t279 _ ?side1 ?side2 ?side3 ?side4 A2.out).mono ?_); (case side1 => repeat (first | exact (Kd.C_below HR0_0.out HB.out) | (with_reducible refine Kd.C_alloc ?_ _) | (with_reducible refine Kd.C_drewN ?_ _) | (with_reducible refine Kd.C_drew ?_))); (case side2 => exact HC0_0.out); (case side3 => repeat (first | exact (Kd.C_below HR0_1.out HB.out) | (with_reducible refine Kd.C_alloc ?_ _) | (with_reducible refine Kd.C_drewN ?_ _) | (with_reducible refine Kd.C_drew ?_))); (case side4 => exact HC0_1.out); rintro e w8 ⟨v277, v280, rfl, ho0, ho1, hb⟩; refine ⟨_, rfl, ?_⟩; have n0_ := Aside0.mk (Kd.R_lower ho0 (below_size (by repeat (first | (with_reducible first | exact HB.out | apply below_alloc | apply pw_below_drewN | apply below_drew1 | refine below_set ?_ GE274.out | refine below_set ?_ GE275.out) | exact HB.out)))); have n1_ := Aside0.mk (Kd.S_lower ho1 (below_size (by repeat (first | (with_reducible first | exact HB.out | apply below_alloc | apply pw_below_drewN | apply below_drew1 | refine below_set ?_ GE274.out | refine below_set ?_ GE275.out) | exact HB.out)))); have n2_ := Aside0.mk (blk_below (g := gb274) (o := .cells #[.slice A0_0 l0_0.length c0_0, .slice A0_1 l0_1.length c0_1] 27 (0, 0)) (by (with_reducible repeat (first | refine blk_drewN ?_ _ | refine blk_drew ?_ | refine blk_alloc ?_ _)); exact BK274.out) hb); have n3_ := Aside0.mk (blk_below (g := gb275) (o := .cells #[.slice none 0 0, .slice none 0 0] 27 (0, 0)) (by (with_reducible repeat (first | refine blk_drewN ?_ _ | refine blk_drew ?_ | refine blk_alloc ?_ _)); exact BK275.out) hb); have n4_ := Aside0.mk (below_step (by repeat (first | (with_reducible first | exact HB.out | apply below_alloc | apply pw_below_drewN | apply below_drew1 | refine below_set ?_ GE274.out | refine below_set ?_ GE275.out) | exact HB.out)) hb); clear BK274; clear BK275; clear HB; have HO278 := n0_; have HO281 := n1_; have BK274 := n2_; have BK275 := n3_; have HB := n4_; clear n0_ n1_ n2_ n3_ n4_; (try clear hb); (try clear hb2); (try clear hk); (try clear hi); (try clear ho0); (try clear ho1)) | ((with_reducible refine gate_dst (N := 4) rfl ?_); refine box_event ?hg (N := 4) ?hd (cs := #[.slice none 0 0, .slice none 0 0]) (t := 27) ?hr ?_; (case hd => rfl); (case hg => rfl); (case hr => first | (go_simp; done) | (go_simp; rfl)); intro gb282 hg w9 hbox hb; have n0_ := Aside0.mk (Kd.R_below (by (with_reducible repeat (first | apply Kd.R_alloc | apply Kd.R_drewN | apply Kd.R_drew)); exact HO278.out) hb); have n1_ := Aside0.mk (Kd.S_below (by (with_reducible repeat (first | apply Kd.S_alloc | apply Kd.S_drewN | apply Kd.S_drew)); exact HO281.out) hb); have n2_ := Aside0.mk (blk_below (g := gb274) (o := .cells #[.slice A0_0 l0_0.length c0_0, .slice A0_1 l0_1.length c0_1] 27 (0, 0)) (by (with_reducible repeat (first | refine blk_drewN ?_ _ | refine blk_drew ?_ | refine blk_alloc ?_ _)); exact BK274.out) hb); have n3_ := Aside0.mk (blk_below (g := gb275) (o := .cells #[.slice none 0 0, .slice none 0 0] 27 (0, 0)) (by (with_reducible repeat (first | refine blk_drewN ?_ _ | refine blk_drew ?_ | refine blk_alloc ?_ _)); exact BK275.out) hb); have n4_ := Aside0.mk (below_step (by repeat (first | (with_reducible first | exact HB.out | apply below_alloc | apply pw_below_drewN | apply below_drew1 | refine below_set ?_ GE274.out | refine below_set ?_ GE275.out) | exact HB.out)) hb); have n5_ := Aside0.mk (hbox); have n6_ := Aside0.mk ((by rw [hg]; exact (below_size (by repeat (first | (with_reducible first | exact HB.out | apply below_alloc | apply pw_below_drewN | apply below_drew1 | refine below_set ?_ GE274.out | refine below_set ?_ GE275.out) | exact HB.out))) : w.heap.size ≤ gb282)); have n7_ := Aside0.mk ((by rw [hg]; exact (below_size (by repeat (first | (with_reducible first | exact HB.out | apply below_alloc | apply pw_below_drewN | apply below_drew1 | refine below_set ?_ GE274.out | refine below_set ?_ GE275.out) | exact HB.out))) : w.heap.size ≤ gb282)); have n8_ := Aside0.mk ((by rw [hg]; exact Nat.ne_of_lt (blk_lt (g := gb274) (o := .cells #[.slice A0_0 l0_0.length c0_0, .slice A0_1 l0_1.length c0_1] 27 (0, 0)) (by (with_reducible repeat (first | refine blk_drewN ?_ _ | refine blk_drew ?_ | refine blk_alloc ?_ _)); exact BK274.out)) : gb274 ≠ gb282)); have n9_ := Aside0.mk ((by rw [hg]; exact Nat.ne_of_gt (blk_lt (g := gb274) (o := .cells #[.slice A0_0 l0_0.length c0_0, .slice A0_1 l0_1.length c0_1] 27 (0, 0)) (by (with_reducible repeat (first | refine blk_drewN ?_ _ | refine blk_drew ?_ | refine blk_alloc ?_ _)); exact BK274.out)) : gb282 ≠ gb274)); have n10_ := Aside0.mk ((by rw [hg]; exact Nat.ne_of_lt (blk_lt (g := gb275) (o := .cells #[.slice none 0 0, .slice none 0 0] 27 (0, 0)) (by (with_reducible repeat (first | refine blk_drewN ?_ _ | refine blk_drew ?_ | refine blk_alloc ?_ _)); exact BK275.out)) : gb275 ≠ gb282)); have n11_ := Aside0.mk ((by rw [hg]; exact Nat.ne_of_gt (blk_lt (g := gb275) (o := .cells #[.slice none 0 0, .slice none 0 0] 27 (0, 0)) (by (with_reducible repeat (first | refine blk_drewN ?_ _ | refine blk_drew ?_ | refine blk_alloc ?_ _)); exact BK275.out)) : gb282 ≠ gb275)); clear HO278; clear HO281; clear BK274; clear BK275; clear HB; have HO278 := n0_; have HO281 := n1_; have BK274 := n2_; have BK275 := n3_; have HB := n4_; have BK282 := n5_; have GW282 := n6_; have GE282 := n7_; have NB274_282 := n8_; have NB282_274 := n9_; have NB275_282 := n10_; have NB282_275 := n11_; clear n0_ n1_ n2_ n3_ n4_ n5_ n6_ n7_ n8_ n9_ n10_ n11_; clear hb hbox hg; obtain ⟨Ao10, co10, eo10⟩ := Kd.R_slice HO278.out; subst eo10; have hnb11 := NB282_274.out; have hnc11 := NB274_282.out; have hnb12 := NB282_275.out; have hnc12 := NB275_282.out; have hcz13_0 : w9.cell? ⟨gb282, 0, none⟩ = some (.slice none 0 0) := (blk_cell BK282.out 0).trans rfl; have hcz13_1 : w9.cell? ⟨gb282, 1, none⟩ = some (.slice none 0 0) := (blk_cell BK282.out 1).trans rfl; have hfz13_0 := blk_frozen BK282.out 0; have hfz13_1 := blk_frozen BK282.out 1; obtain ⟨Ao14, co14, eo14⟩ := Kd.S_slice HO281.out; subst eo14; have hcz15_0 : w9.cell? ⟨gb275, 0, none⟩ = some (.slice none 0 0) := (blk_cell BK275.out 0).trans rfl; have hcz15_1 : w9.cell? ⟨gb275, 1, none⟩ = some (.slice none 0 0) := (blk_cell BK275.out 1).trans rfl; have hfz15_0 := blk_frozen BK275.out 0; have hfz15_1 := blk_frozen BK275.out 1))
  refine bodyPost_ret (results_ct rfl _ _ gb275 27 #[.slice none 0 0, .slice none 0 0] (0, 0) _ rfl (by (with_reducible repeat (first | refine blk_drewN ?_ _ | refine blk_drew ?_ | refine blk_alloc ?_ _)); refine blk_put (cs := #[.slice none 0 0, .slice none 0 0]) ?_ 1 _ rfl; (with_reducible repeat (first | refine blk_drewN ?_ _ | refine blk_drew ?_ | refine blk_alloc ?_ _)); refine blk_put (cs := #[.slice none 0 0, .slice none 0 0]) ?_ 0 _ rfl; (with_reducible repeat (first | refine blk_drewN ?_ _ | refine blk_drew ?_ | refine blk_alloc ?_ _)); refine blk_far ?_ NB275_282.out _; (with_reducible repeat (first | refine blk_drewN ?_ _ | refine blk_drew ?_ | refine blk_alloc ?_ _)); refine blk_far ?_ NB275_282.out _; (with_reducible repeat (first | refine blk_drewN ?_ _ | refine blk_drew ?_ | refine blk_alloc ?_ _)); exact BK275.out) Try.underlying27 rfl (by kernel_rfl)) rfl ?_
  exact ⟨_, _, by first | rfl | (simp [errW_none, errW_some] <;> rfl) | (simp [*, errW_none, errW_some] <;> rfl), by first | exact Kd.R_nil _ _ _ _ _ | exact Kd.N_nil _ _ _ _ _ | exact Kd.V_nil _ _ _ _ _ | exact Kd.Q_nil _ _ _ _ _ | exact Kd.S_nil _ _ _ _ _, by first | exact Kd.S_nil _ _ _ _ _ | exact Kd.N_nil _ _ _ _ _ | exact Kd.V_nil _ _ _ _ _ | exact Kd.Q_nil _ _ _ _ _ | exact Kd.R_nil _ _ _ _ _, by repeat (first | (with_reducible first | exact HB.out | apply below_alloc | apply pw_below_drewN | apply below_drew1 | refine below_set ?_ GE274.out | refine below_set ?_ GE275.out | refine below_set ?_ GE282.out) | exact HB.out)⟩
 ·rw [if_neg c3] at H
  have c3b0 : decide (40 < (t276.length : Int)) = false := decide_eq_false c3
  have c3b1 : decide (40 < t276.length) = false := decide_eq_false (by omega)
  clear c3
  simp only [Option.some.injEq, Prod.mk.injEq] at H
  obtain ⟨rfl, rfl, rfl⟩ := H
  go_enter Try.func68, Try.ntmps68
  go_wp2_with (first | ((with_reducible refine gate_dst (N := 1) rfl ?_); refine box_event ?hg (N := 1) ?hd (cs := #[.slice A0_0 l0_0.length c0_0, .slice A0_1 l0_1.length c0_1]) (t := 27) ?hr ?_; (case hd => rfl); (case hg => rfl); (case hr => first | (go_simp; done) | (go_simp; rfl)); intro gb274 hg w16 hbox hb; have n0_ := Aside0.mk (below_step (by repeat (first | (with_reducible first | exact HB.out | apply below_alloc | apply pw_below_drewN | apply below_drew1) | exact HB.out)) hb); have n1_ := Aside0.mk (hbox); have n2_ := Aside0.mk ((by rw [hg]; exact (below_size (by repeat (first | (with_reducible first | exact HB.out | apply below_alloc | apply pw_below_drewN | apply below_drew1) | exact HB.out))) : w.heap.size ≤ gb274)); have n3_ := Aside0.mk ((by rw [hg]; exact (below_size (by repeat (first | (with_reducible first | exact HB.out | apply below_alloc | apply pw_below_drewN | apply below_drew1) | exact HB.out))) : w.heap.size ≤ gb274)); clear HB; have HB := n0_; have BK274 := n1_; have GW274 := n2_; have GE274 := n3_; clear n0_ n1_ n2_ n3_; clear hb hbox hg) | ((with_reducible refine gate_dst (N := 2) rfl ?_); refine box_event ?hg (N := 2) ?hd (cs := #[.slice none 0 0, .slice none 0 0]) (t := 27) ?hr ?_; (case hd => rfl); (case hg => rfl); (case hr => first | (go_simp; done) | (go_simp; rfl)); intro gb275 hg w17 hbox hb; have n0_ := Aside0.mk (blk_below (g := gb274) (o := .cells #[.slice A0_0 l0_0.length c0_0, .slice A0_1 l0_1.length c0_1] 27 (0, 0)) (by (with_reducible repeat (first | refine blk_drewN ?_ _ | refine blk_drew ?_ | refine blk_alloc ?_ _)); exact BK274.out) hb); have n1_ := Aside0.mk (below_step (by repeat (first | (with_reducible first | exact HB.out | apply below_alloc | apply pw_below_drewN | apply below_drew1 | refine below_set ?_ GE274.out) | exact HB.out)) hb); have n2_ := Aside0.mk (hbox); have n3_ := Aside0.mk ((by rw [hg]; exact (below_size (by repeat (first | (with_reducible first | exact HB.out | apply below_alloc | apply pw_below_drewN | apply below_drew1 | refine below_set ?_ GE274.out) | exact HB.out))) : w.heap.size ≤ gb275)); have n4_ := Aside0.mk ((by rw [hg]; exact (below_size (by repeat (first | (with_reducible first | exact HB.out | apply below_alloc | apply pw_below_drewN | apply below_drew1 | refine below_set ?_ GE274.out) | exact HB.out))) : w.heap.size ≤ gb275)); have n5_ := Aside0.mk ((by rw [hg]; exact Nat.ne_of_lt (blk_lt (g := gb274) (o := .cells #[.slice A0_0 l0_0.length c0_0, .slice A0_1 l0_1.length c0_1] 27 (0, 0)) (by (with_reducible repeat (first | refine blk_drewN ?_ _ | refine blk_drew ?_ | refine blk_alloc ?_ _)); exact BK274.out)) : gb274 ≠ gb275)); have n6_ := Aside0.mk ((by rw [hg]; exact Nat.ne_of_gt (blk_lt (g := gb274) (o := .cells #[.slice A0_0 l0_0.length c0_0, .slice A0_1 l0_1.length c0_1] 27 (0, 0)) (by (with_reducible repeat (first | refine blk_drewN ?_ _ | refine blk_drew ?_ | refine blk_alloc ?_ _)); exact BK274.out)) : gb275 ≠ gb274)); clear BK274; clear HB; have BK274 := n0_; have HB := n1_; have BK275 := n2_; have GW275 := n3_; have GE275 := n4_; have NB274_275 := n5_; have NB275_274 := n6_; clear n0_ n1_ n2_ n3_ n4_ n5_ n6_; clear hb hbox hg; have hnb18 := NB274_275.out; have hnc18 := NB275_274.out; have hcz19_0 : w17.cell? ⟨gb274, 0, none⟩ = some (.slice A0_0 l0_0.length c0_0) := (blk_cell BK274.out 0).trans rfl; have hcz19_1 : w17.cell? ⟨gb274, 1, none⟩ = some (.slice A0_1 l0_1.length c0_1) := (blk_cell BK274.out 1).trans rfl; have hfz19_0 := blk_frozen BK274.out 0; have hfz19_1 := blk_frozen BK274.out 1) | ((with_reducible refine gate_callee (f := 56) rfl ?_); refine goesL_ (some 6) rfl rfl Try.func56 (by kernel_rfl) rfl #[.agg #[.slice A0_0 l0_0.length c0_0, .slice A0_1 l0_1.length c0_1], .int .i64 0] rfl (by (try simp only [List.map_toArray, List.map_cons, List.map_nil]); first | done | rfl | (simp only [List.length_drop, List.length_take]; rfl)) ?_; (with_reducible refine (impl_minimized.calls _ _ l0_0 _ _ l0_1 0 t276 t279 _ ?side1 ?side2 ?side3 ?side4 A2.out).mono ?_); (case side1 => repeat (first | exact (Kd.C_below HR0_0.out HB.out) | (with_reducible refine Kd.C_alloc ?_ _) | (with_reducible refine Kd.C_drewN ?_ _) | (with_reducible refine Kd.C_drew ?_))); (case side2 => exact HC0_0.out); (case side3 => repeat (first | exact (Kd.C_below HR0_1.out HB.out) | (with_reducible refine Kd.C_alloc ?_ _) | (with_reducible refine Kd.C_drewN ?_ _) | (with_reducible refine Kd.C_drew ?_))); (case side4 => exact HC0_1.out); rintro e w20 ⟨v277, v280, rfl, ho0, ho1, hb⟩; refine ⟨_, rfl, ?_⟩; have n0_ := Aside0.mk (Kd.R_lower ho0 (below_size (by repeat (first | (with_reducible first | exact HB.out | apply below_alloc | apply pw_below_drewN | apply below_drew1 | refine below_set ?_ GE274.out | refine below_set ?_ GE275.out) | exact HB.out)))); have n1_ := Aside0.mk (Kd.S_lower ho1 (below_size (by repeat (first | (with_reducible first | exact HB.out | apply below_alloc | apply pw_below_drewN | apply below_drew1 | refine below_set ?_ GE274.out | refine below_set ?_ GE275.out) | exact HB.out)))); have n2_ := Aside0.mk (blk_below (g := gb274) (o := .cells #[.slice A0_0 l0_0.length c0_0, .slice A0_1 l0_1.length c0_1] 27 (0, 0)) (by (with_reducible repeat (first | refine blk_drewN ?_ _ | refine blk_drew ?_ | refine blk_alloc ?_ _)); exact BK274.out) hb); have n3_ := Aside0.mk (blk_below (g := gb275) (o := .cells #[.slice none 0 0, .slice none 0 0] 27 (0, 0)) (by (with_reducible repeat (first | refine blk_drewN ?_ _ | refine blk_drew ?_ | refine blk_alloc ?_ _)); exact BK275.out) hb); have n4_ := Aside0.mk (below_step (by repeat (first | (with_reducible first | exact HB.out | apply below_alloc | apply pw_below_drewN | apply below_drew1 | refine below_set ?_ GE274.out | refine below_set ?_ GE275.out) | exact HB.out)) hb); clear BK274; clear BK275; clear HB; have HO278 := n0_; have HO281 := n1_; have BK274 := n2_; have BK275 := n3_; have HB := n4_; clear n0_ n1_ n2_ n3_ n4_; (try clear hb); (try clear hb2); (try clear hk); (try clear hi); (try clear ho0); (try clear ho1)) | ((with_reducible refine gate_dst (N := 4) rfl ?_); refine box_event ?hg (N := 4) ?hd (cs := #[.slice none 0 0, .slice none 0 0]) (t := 27) ?hr ?_; (case hd => rfl); (case hg => rfl); (case hr => first | (go_simp; done) | (go_simp; rfl)); intro gb282 hg w21 hbox hb; have n0_ := Aside0.mk (Kd.R_below (by (with_reducible repeat (first | apply Kd.R_alloc | apply Kd.R_drewN | apply Kd.R_drew)); exact HO278.out) hb); have n1_ := Aside0.mk (Kd.S_below (by (with_reducible repeat (first | apply Kd.S_alloc | apply Kd.S_drewN | apply Kd.S_drew)); exact HO281.out) hb); have n2_ := Aside0.mk (blk_below (g := gb274) (o := .cells #[.slice A0_0 l0_0.length c0_0, .slice A0_1 l0_1.length c0_1] 27 (0, 0)) (by (with_reducible repeat (first | refine blk_drewN ?_ _ | refine blk_drew ?_ | refine blk_alloc ?_ _)); exact BK274.out) hb); have n3_ := Aside0.mk (blk_below (g := gb275) (o := .cells #[.slice none 0 0, .slice none 0 0] 27 (0, 0)) (by (with_reducible repeat (first | refine blk_drewN ?_ _ | refine blk_drew ?_ | refine blk_alloc ?_ _)); exact BK275.out) hb); have n4_ := Aside0.mk (below_step (by repeat (first | (with_reducible first | exact HB.out | apply below_alloc | apply pw_below_drewN | apply below_drew1 | refine below_set ?_ GE274.out | refine below_set ?_ GE275.out) | exact HB.out)) hb); have n5_ := Aside0.mk (hbox); have n6_ := Aside0.mk ((by rw [hg]; exact (below_size (by repeat (first | (with_reducible first | exact HB.out | apply below_alloc | apply pw_below_drewN | apply below_drew1 | refine below_set ?_ GE274.out | refine below_set ?_ GE275.out) | exact HB.out))) : w.heap.size ≤ gb282)); have n7_ := Aside0.mk ((by rw [hg]; exact (below_size (by repeat (first | (with_reducible first | exact HB.out | apply below_alloc | apply pw_below_drewN | apply below_drew1 | refine below_set ?_ GE274.out | refine below_set ?_ GE275.out) | exact HB.out))) : w.heap.size ≤ gb282)); have n8_ := Aside0.mk ((by rw [hg]; exact Nat.ne_of_lt (blk_lt (g := gb274) (o := .cells #[.slice A0_0 l0_0.length c0_0, .slice A0_1 l0_1.length c0_1] 27 (0, 0)) (by (with_reducible repeat (first | refine blk_drewN ?_ _ | refine blk_drew ?_ | refine blk_alloc ?_ _)); exact BK274.out)) : gb274 ≠ gb282)); have n9_ := Aside0.mk ((by rw [hg]; exact Nat.ne_of_gt (blk_lt (g := gb274) (o := .cells #[.slice A0_0 l0_0.length c0_0, .slice A0_1 l0_1.length c0_1] 27 (0, 0)) (by (with_reducible repeat (first | refine blk_drewN ?_ _ | refine blk_drew ?_ | refine blk_alloc ?_ _)); exact BK274.out)) : gb282 ≠ gb274)); have n10_ := Aside0.mk ((by rw [hg]; exact Nat.ne_of_lt (blk_lt (g := gb275) (o := .cells #[.slice none 0 0, .slice none 0 0] 27 (0, 0)) (by (with_reducible repeat (first | refine blk_drewN ?_ _ | refine blk_drew ?_ | refine blk_alloc ?_ _)); exact BK275.out)) : gb275 ≠ gb282)); have n11_ := Aside0.mk ((by rw [hg]; exact Nat.ne_of_gt (blk_lt (g := gb275) (o := .cells #[.slice none 0 0, .slice none 0 0] 27 (0, 0)) (by (with_reducible repeat (first | refine blk_drewN ?_ _ | refine blk_drew ?_ | refine blk_alloc ?_ _)); exact BK275.out)) : gb282 ≠ gb275)); clear HO278; clear HO281; clear BK274; clear BK275; clear HB; have HO278 := n0_; have HO281 := n1_; have BK274 := n2_; have BK275 := n3_; have HB := n4_; have BK282 := n5_; have GW282 := n6_; have GE282 := n7_; have NB274_282 := n8_; have NB282_274 := n9_; have NB275_282 := n10_; have NB282_275 := n11_; clear n0_ n1_ n2_ n3_ n4_ n5_ n6_ n7_ n8_ n9_ n10_ n11_; clear hb hbox hg; obtain ⟨Ao22, co22, eo22⟩ := Kd.R_slice HO278.out; subst eo22; have hnb23 := NB282_274.out; have hnc23 := NB274_282.out; have hnb24 := NB282_275.out; have hnc24 := NB275_282.out; have hcz25_0 : w21.cell? ⟨gb282, 0, none⟩ = some (.slice none 0 0) := (blk_cell BK282.out 0).trans rfl; have hcz25_1 : w21.cell? ⟨gb282, 1, none⟩ = some (.slice none 0 0) := (blk_cell BK282.out 1).trans rfl; have hfz25_0 := blk_frozen BK282.out 0; have hfz25_1 := blk_frozen BK282.out 1; obtain ⟨Ao26, co26, eo26⟩ := Kd.S_slice HO281.out; subst eo26; have hcz27_0 : w21.cell? ⟨gb275, 0, none⟩ = some (.slice none 0 0) := (blk_cell BK275.out 0).trans rfl; have hcz27_1 : w21.cell? ⟨gb275, 1, none⟩ = some (.slice none 0 0) := (blk_cell BK275.out 1).trans rfl; have hfz27_0 := blk_frozen BK275.out 0; have hfz27_1 := blk_frozen BK275.out 1))
  refine bodyPost_ret (results_ct rfl _ _ gb275 27 #[.slice Ao22 t276.length co22, .slice Ao26 t279.length co26] (0, 0) _ rfl (by (with_reducible repeat (first | refine blk_drewN ?_ _ | refine blk_drew ?_ | refine blk_alloc ?_ _)); refine blk_put (cs := #[.slice Ao22 t276.length co22, .slice none 0 0]) ?_ 1 _ rfl; (with_reducible repeat (first | refine blk_drewN ?_ _ | refine blk_drew ?_ | refine blk_alloc ?_ _)); refine blk_put (cs := #[.slice none 0 0, .slice none 0 0]) ?_ 0 _ rfl; (with_reducible repeat (first | refine blk_drewN ?_ _ | refine blk_drew ?_ | refine blk_alloc ?_ _)); refine blk_far ?_ NB275_282.out _; (with_reducible repeat (first | refine blk_drewN ?_ _ | refine blk_drew ?_ | refine blk_alloc ?_ _)); refine blk_far ?_ NB275_282.out _; (with_reducible repeat (first | refine blk_drewN ?_ _ | refine blk_drew ?_ | refine blk_alloc ?_ _)); exact BK275.out) Try.underlying27 rfl (by kernel_rfl)) rfl ?_
  exact ⟨_, _, by first | rfl | (simp [errW_none, errW_some] <;> rfl) | (simp [*, errW_none, errW_some] <;> rfl), by (with_reducible repeat (first | apply Kd.R_alloc | apply Kd.R_drewN | apply Kd.R_drew)); exact Kd.R_mono (Kd.R_far (p := ⟨gb275, 1, none⟩) (Kd.R_far (p := ⟨gb275, 0, none⟩) (Kd.R_far (p := ⟨gb282, 1, none⟩) (Kd.R_far (p := ⟨gb282, 0, none⟩) (Kd.R_types (Kd.R_types HO278.out BK282.out (by decide)) BK275.out (by decide)) (fun _ hk => hk.1.2) (.slice Ao22 t276.length co22)) (fun _ hk => hk.1.2) (.slice Ao26 t279.length co26)) (fun _ hk => hk.2) (.slice Ao22 t276.length co22)) (fun _ hk => hk.2) (.slice Ao26 t279.length co26)) (fun _ hk => trivial), by (with_reducible repeat (first | apply Kd.S_alloc | apply Kd.S_drewN | apply Kd.S_drew)); exact Kd.S_mono (Kd.S_far (p := ⟨gb275, 1, none⟩) (Kd.S_far (p := ⟨gb275, 0, none⟩) (Kd.S_far (p := ⟨gb282, 1, none⟩) (Kd.S_far (p := ⟨gb282, 0, none⟩) (Kd.S_types (Kd.S_types HO281.out BK282.out (by decide)) BK275.out (by decide)) (fun _ hk => hk.1.2) (.slice Ao22 t276.length co22)) (fun _ hk => hk.1.2) (.slice Ao26 t279.length co26)) (fun _ hk => hk.2) (.slice Ao22 t276.length co22)) (fun _ hk => hk.2) (.slice Ao26 t279.length co26)) (fun _ hk => trivial), by repeat (first | (with_reducible first | exact HB.out | apply below_alloc | apply pw_below_drewN | apply below_drew1 | refine below_set ?_ GE274.out | refine below_set ?_ GE275.out | refine below_set ?_ GE282.out) | exact HB.out)⟩
end Go.Proofs.Ytogamkblkoobkaa.P
end
section
namespace Go.Proofs.Ytogamkblkoobkaa.Wk
open Go.RowKit Go.Shelf Go.Proofs.Ytogamkblkoobkaa.P Go.Proofs.Ytogamkblkoobkaa.Pl Go.Proofs.Ytogamkblkoobkaa.Mp Go.Proofs.Ytogamkblkoobkaa.Bf Go.Proofs.Ytogamkblkoobkaa.Mn Go.Proofs.Ytogamkblkoobkaa.Lg Go.Proofs.Ytogamkblkoobkaa.Can Go.Proofs.YtogamkblkoobkaaW.PrintWords Go.Proofs.YtogamkblkoobkaaW.PrintLast Go.Proofs.YtogamkblkoobkaaW.PrintMore
set_option linter.unusedVariables false
set_option linter.unusedSimpArgs false
theorem tabpn : rtab .any (opsOf Try.f67 1) = Tn1 := by kernel_rfl
theorem bitspn : waitsOk Tn1.2 Bn1 = true := by kernel_rfl
def bothB (kind : Int) (u v : Bool) : Bool := if kind = 6 then u || v else u && v
set_option maxHeartbeats 4000000 in
set_option maxRecDepth 100000 in
theorem pdAcc (A0 : Option Addr) (c0 : Nat) (l0 : List Bool) (A1 : Option Addr) (c1 : Nat) (l1 : List Bool) (G Ga Gb : Nat) (kind : Int) (hk : kind = 6 ∨ kind = 7) (x : Pr) (W : World)
    (hx0 : 0 ≤ x.1) (hx1 : x.1 < l0.length) (hy0 : 0 ≤ x.2) (hy1 : x.2 < l1.length) (hG : W.cell? ⟨G, 0, none⟩ = some (.int .i64 kind)) (ha : W.cell? ⟨Ga, 0, none⟩ = some (.slice A0 l0.length c0)) (hb : W.cell? ⟨Gb, 0, none⟩ = some (.slice A1 l1.length c1))
    (hr0 : Kd.C Kd.bool W A0 l0.length l0) (hr1 : Kd.C Kd.bool W A1 l1.length l1) :
    Calls Try.prog 66 (#[.agg #[.int .i64 x.1, .int .i64 x.2]] ++ #[.pointer (some ⟨G, 0, none⟩), .pointer (some ⟨Ga, 0, none⟩), .pointer (some ⟨Gb, 0, none⟩)]) W fun e W' => e = .returned (.bool (bothB kind (rdOf false l0 x.1) (rdOf false l1 x.2))) ∧ Below W.heap.size W W' := by
  obtain ⟨a0, rfl, hu⟩ := Kd.at_bool hr0 x.1 hx0 hx1
  obtain ⟨a1, rfl, hv⟩ := Kd.at_bool hr1 x.2 hy0 hy1
  generalize rdOf false l0 x.1 = u at hu ⊢
  generalize rdOf false l1 x.2 = v at hv ⊢
  have HB := Aside0.mk (below_alloc (Below.refl W.heap.size W) (Obj.cells #[Value.int IntKind.i64 x.1, Value.int IntKind.i64 x.2] 72))
  have kG := pw_cell_below HB.out hG
  have ka := pw_cell_below HB.out ha
  have kb := pw_cell_below HB.out hb
  have ku := pw_cell_below HB.out hu
  have kv := pw_cell_below HB.out hv
  have p1 := eq_true hx0
  have q1 := eq_true hx1
  have p2 := eq_true hy0
  have q2 := eq_true hy1
  clear hx0 hx1 hy0 hy1 hr0 hr1 hG ha hb hu hv
  rcases hk with rfl | rfl <;> cases u <;> cases v
  all_goals
    go_enter Try.func66, Try.ntmps66
    go_wp2
    go_ret
    exact ⟨rfl, HB.out⟩
set_option maxRecDepth 100000 in
set_option maxHeartbeats 4000000 in
theorem pdNext (A0 : Option Addr) (c0 : Nat) (l0 : List (List Int)) (A1 : Option Addr) (c1 : Nat) (l1 : List (List Int)) (Ga Gb : Nat) (x : Pr) (j : Nat) (W : World)
    (hx0 : 0 ≤ x.1) (hx1 : x.1 < l0.length) (hy0 : 0 ≤ x.2) (hy1 : x.2 < l1.length) (hj0 : j < (l0.getD x.1.toNat []).length) (hj1 : j < (l1.getD x.2.toNat []).length) (ha : W.cell? ⟨Ga, 1, none⟩ = some (.slice A0 l0.length c0)) (hb : W.cell? ⟨Gb, 1, none⟩ = some (.slice A1 l1.length c1))
    (hr0 : Kd.C (Kd.slice 3 (Kd.int .i64)) W A0 l0.length l0) (hr1 : Kd.C (Kd.slice 3 (Kd.int .i64)) W A1 l1.length l1) :
    Calls Try.prog 67 (#[.agg #[.int .i64 x.1, .int .i64 x.2], .int .i64 j] ++ #[.pointer (some ⟨Ga, 0, none⟩), .pointer (some ⟨Gb, 0, none⟩)]) W fun e W' => e = .returned (.agg #[.int .i64 (nxD l0 x.1 j), .int .i64 (nxD l1 x.2 j)]) ∧ Below W.heap.size W W' := by
  obtain ⟨a0, rfl, hcell0⟩ := cellsRows hr0 (by omega)
  obtain ⟨Aj0, cj0, hu, hrow0⟩ := hcell0 x.1.toNat (by omega)
  obtain ⟨a1, rfl, hcell1⟩ := cellsRows hr1 (by omega)
  obtain ⟨Aj1, cj1, hv, hrow1⟩ := hcell1 x.2.toNat (by omega)
  unfold nxD
  generalize l0.getD x.1.toNat [] = row0 at hj0 hu hrow0 ⊢
  generalize l1.getD x.2.toNat [] = row1 at hj1 hv hrow1 ⊢
  obtain ⟨b0, rfl, hs⟩ := Kd.at_int hrow0 (j : Int) (by omega) (by omega)
  obtain ⟨b1, rfl, ht⟩ := Kd.at_int hrow1 (j : Int) (by omega) (by omega)
  generalize rd row0 j = y0 at hs ⊢
  generalize rd row1 j = y1 at ht ⊢
  rw [Int.toNat_natCast] at hs ht
  have p1 := eq_true hx0
  have q1 := eq_true hx1
  have p2 := eq_true hy0
  have q2 := eq_true hy1
  have p3 : ((0 : Int) ≤ (j : Int)) = True := eq_true (by omega)
  have q3 : ((j : Int) < (row0.length : Int)) = True := eq_true (by omega)
  have q4 : ((j : Int) < (row1.length : Int)) = True := eq_true (by omega)
  have HB := Aside0.mk (below_alloc (below_alloc (Below.refl W.heap.size W) (Obj.cells #[Value.int IntKind.i64 x.1, Value.int IntKind.i64 x.2] 72)) (Obj.cells #[Value.int IntKind.i64 0, Value.int IntKind.i64 0] 72))
  have ka := pw_cell_below HB.out ha
  have kb := pw_cell_below HB.out hb
  have ku := pw_cell_below HB.out hu
  have kv := pw_cell_below HB.out hv
  have ks := pw_cell_below HB.out hs
  have kt := pw_cell_below HB.out ht
  clear hx0 hx1 hy0 hy1 hr0 hr1 ha hb hu hv hs ht hcell0 hcell1 hrow0 hrow1 hj0 hj1
  go_enter Try.func67, Try.ntmps67
  go_wp2
  have s0 : World.cell? ((W.alloc (Obj.cells #[Value.int IntKind.i64 x.1, Value.int IntKind.i64 x.2] 72)).alloc (Obj.cells #[Value.int IntKind.i64 0, Value.int IntKind.i64 0] 72)) ⟨W.heap.size, 0, none⟩ = some (.int .i64 x.1) := pw_cell_below (below_alloc (Below.refl _ _) _) (by simp)
  have s1 : World.cell? ((W.alloc (Obj.cells #[Value.int IntKind.i64 x.1, Value.int IntKind.i64 x.2] 72)).alloc (Obj.cells #[Value.int IntKind.i64 0, Value.int IntKind.i64 0] 72)) ⟨W.heap.size, 1, none⟩ = some (.int .i64 x.2) := pw_cell_below (below_alloc (Below.refl _ _) _) (by simp)
  have HBD := Aside0.mk (below_drew HB.out)
  refine start_ (n := 20) (S := (fun w' => w'.cell? ⟨Ga, 1, none⟩ = some (.slice (some a0) l0.length c0) ∧ w'.cell? ⟨Gb, 1, none⟩ = some (.slice (some a1) l1.length c1) ∧ w'.cell? ⟨W.heap.size, 0, none⟩ = some (.int .i64 x.1) ∧ w'.cell? ⟨W.heap.size, 1, none⟩ = some (.int .i64 x.2) ∧ w'.cell? (a0.add x.1.toNat) = some (.slice (some b0) row0.length cj0) ∧ w'.cell? (a1.add x.2.toNat) = some (.slice (some b1) row1.length cj1) ∧ w'.cell? (b0.add j) = some (.int .i64 y0) ∧ w'.cell? (b1.add j) = some (.int .i64 y1))) (ds := [19]) #[false, false, false, false, false, false, false, false, false, false, false, false, false, false, false, false, false, false, false, false] (by kernel_rfl) rfl rfl (⟨ka, kb, s0, s1, ku, kv, ks, kt⟩) (fun hHeld => ?_); refine with_tabW tabpn bitspn (fun HT_ HW_ => ?_)
  refine pure_ (i := 0) (N := some 7) (v := ?_) (a' := ?_) #[true, false, false, false, false, false, false, false, false, false, false, false, false, false, false, false, false, false, false, false] rfl rfl (any_of HT_.out (by kernel_rfl)) (fun _ _ _ h => h) (Or.inl ⟨by rfl, ?_⟩) ?_ ?_
  rotate_left
  · intro w'
    go_simp
    with_reducible rfl
  rotate_left
  · simp only [Act.put, List.setIfInBounds_toArray, List.set_cons_zero, List.set_cons_succ, i64_w, i32_w]
    rfl
  refine pure_ (i := 2) (N := some 9) (v := ?_) (a' := ?_) #[true, false, true, false, false, false, false, false, false, false, false, false, false, false, false, false, false, false, false, false] rfl rfl (any_of HT_.out (by kernel_rfl)) (fun _ _ _ h => h) (Or.inl ⟨by rfl, ?_⟩) ?_ ?_
  rotate_left
  · intro w'
    go_simp
    with_reducible rfl
  rotate_left
  · simp only [Act.put, List.setIfInBounds_toArray, List.set_cons_zero, List.set_cons_succ, i64_w, i32_w]
    rfl
  refine pure_ (i := 6) (N := some 13) (v := ?_) (a' := ?_) #[true, false, true, false, false, false, true, false, false, false, false, false, false, false, false, false, false, false, false, false] rfl rfl (any_of HT_.out (by kernel_rfl)) (fun _ _ _ h => h) (Or.inl ⟨by rfl, ?_⟩) ?_ ?_
  rotate_left
  · intro w'
    go_simp
    with_reducible rfl
  rotate_left
  · simp only [Act.put, List.setIfInBounds_toArray, List.set_cons_zero, List.set_cons_succ, i64_w, i32_w]
    rfl
  refine pure_ (i := 9) (N := some 16) (v := ?_) (a' := ?_) #[true, false, true, false, false, false, true, false, false, true, false, false, false, false, false, false, false, false, false, false] rfl rfl (any_of HT_.out (by kernel_rfl)) (fun _ _ _ h => h) (Or.inl ⟨by rfl, ?_⟩) ?_ ?_
  rotate_left
  · intro w'
    go_simp
    with_reducible rfl
  rotate_left
  · simp only [Act.put, List.setIfInBounds_toArray, List.set_cons_zero, List.set_cons_succ, i64_w, i32_w]
    rfl
  refine pure_ (i := 11) (N := some 18) (v := ?_) (a' := ?_) #[true, false, true, false, false, false, true, false, false, true, false, true, false, false, false, false, false, false, false, false] rfl rfl (any_of HT_.out (by kernel_rfl)) (fun _ _ _ h => h) (Or.inl ⟨by rfl, ?_⟩) ?_ ?_
  rotate_left
  · intro w'
    go_simp
    with_reducible rfl
  rotate_left
  · simp only [Act.put, List.setIfInBounds_toArray, List.set_cons_zero, List.set_cons_succ, i64_w, i32_w]
    rfl
  refine pure_ (i := 15) (N := some 22) (v := ?_) (a' := ?_) #[true, false, true, false, false, false, true, false, false, true, false, true, false, false, false, true, false, false, false, false] rfl rfl (any_of HT_.out (by kernel_rfl)) (fun _ _ _ h => h) (Or.inl ⟨by rfl, ?_⟩) ?_ ?_
  rotate_left
  · intro w'
    go_simp
    with_reducible rfl
  rotate_left
  · simp only [Act.put, List.setIfInBounds_toArray, List.set_cons_zero, List.set_cons_succ, i64_w, i32_w]
    rfl
  refine take_ (i := 1) (N := some 8) (v := ?_) (a' := ?_) #[true, true, true, false, false, false, true, false, false, true, false, true, false, false, false, true, false, false, false, false] rfl rfl (take_ofW HT_.out HW_.out (by kernel_rfl)) (fun _ _ _ h => h) (Or.inl ⟨by rfl, ?_⟩) hHeld ?_ ?_
  rotate_left
  · rintro w' ⟨t0, t1, t2, t3, t4, t5, t6, t7⟩
    go_simp
    with_reducible rfl
  rotate_left
  · simp only [Act.put, List.setIfInBounds_toArray, List.set_cons_zero, List.set_cons_succ, i64_w, i32_w]
    rfl
  refine take_ (i := 3) (N := some 10) (v := ?_) (a' := ?_) #[true, true, true, true, false, false, true, false, false, true, false, true, false, false, false, true, false, false, false, false] rfl rfl (take_ofW HT_.out HW_.out (by kernel_rfl)) (fun _ _ _ h => h) (Or.inl ⟨by rfl, ?_⟩) hHeld ?_ ?_
  rotate_left
  · rintro w' ⟨t0, t1, t2, t3, t4, t5, t6, t7⟩
    go_simp
    with_reducible rfl
  rotate_left
  · simp only [Act.put, List.setIfInBounds_toArray, List.set_cons_zero, List.set_cons_succ, i64_w, i32_w]
    rfl
  refine pure_ (i := 4) (N := some 11) (v := ?_) (a' := ?_) #[true, true, true, true, true, false, true, false, false, true, false, true, false, false, false, true, false, false, false, false] rfl rfl (any_of HT_.out (by kernel_rfl)) (fun _ _ _ h => h) (Or.inl ⟨by rfl, ?_⟩) ?_ ?_
  rotate_left
  · intro w'
    go_simp
    with_reducible rfl
  rotate_left
  · simp only [Act.put, List.setIfInBounds_toArray, List.set_cons_zero, List.set_cons_succ, i64_w, i32_w]
    rfl
  refine take_ (i := 5) (N := some 12) (v := ?_) (a' := ?_) #[true, true, true, true, true, true, true, false, false, true, false, true, false, false, false, true, false, false, false, false] rfl rfl (take_ofW HT_.out HW_.out (by kernel_rfl)) (fun _ _ _ h => h) (Or.inl ⟨by rfl, ?_⟩) hHeld ?_ ?_
  rotate_left
  · rintro w' ⟨t0, t1, t2, t3, t4, t5, t6, t7⟩
    go_simp
    with_reducible rfl
  rotate_left
  · simp only [Act.put, List.setIfInBounds_toArray, List.set_cons_zero, List.set_cons_succ, i64_w, i32_w]
    rfl
  refine pure_ (i := 7) (N := some 14) (v := ?_) (a' := ?_) #[true, true, true, true, true, true, true, true, false, true, false, true, false, false, false, true, false, false, false, false] rfl rfl (any_of HT_.out (by kernel_rfl)) (fun _ _ _ h => h) (Or.inl ⟨by rfl, ?_⟩) ?_ ?_
  rotate_left
  · intro w'
    go_simp
    with_reducible rfl
  rotate_left
  · simp only [Act.put, List.setIfInBounds_toArray, List.set_cons_zero, List.set_cons_succ, i64_w, i32_w]
    rfl
  refine take_ (i := 8) (N := some 15) (v := ?_) (a' := ?_) #[true, true, true, true, true, true, true, true, true, true, false, true, false, false, false, true, false, false, false, false] rfl rfl (take_ofW HT_.out HW_.out (by kernel_rfl)) (fun _ _ _ h => h) (Or.inl ⟨by rfl, ?_⟩) hHeld ?_ ?_
  rotate_left
  · rintro w' ⟨t0, t1, t2, t3, t4, t5, t6, t7⟩
    go_simp
    with_reducible rfl
  rotate_left
  · simp only [Act.put, List.setIfInBounds_toArray, List.set_cons_zero, List.set_cons_succ, i64_w, i32_w]
    rfl
  refine take_ (i := 10) (N := some 17) (v := ?_) (a' := ?_) #[true, true, true, true, true, true, true, true, true, true, true, true, false, false, false, true, false, false, false, false] rfl rfl (take_ofW HT_.out HW_.out (by kernel_rfl)) (fun _ _ _ h => h) (Or.inl ⟨by rfl, ?_⟩) hHeld ?_ ?_
  rotate_left
  · rintro w' ⟨t0, t1, t2, t3, t4, t5, t6, t7⟩
    go_simp
    with_reducible rfl
  rotate_left
  · simp only [Act.put, List.setIfInBounds_toArray, List.set_cons_zero, List.set_cons_succ, i64_w, i32_w]
    rfl
  refine take_ (i := 12) (N := some 19) (v := ?_) (a' := ?_) #[true, true, true, true, true, true, true, true, true, true, true, true, true, false, false, true, false, false, false, false] rfl rfl (take_ofW HT_.out HW_.out (by kernel_rfl)) (fun _ _ _ h => h) (Or.inl ⟨by rfl, ?_⟩) hHeld ?_ ?_
  rotate_left
  · rintro w' ⟨t0, t1, t2, t3, t4, t5, t6, t7⟩
    go_simp
    with_reducible rfl
  rotate_left
  · simp only [Act.put, List.setIfInBounds_toArray, List.set_cons_zero, List.set_cons_succ, i64_w, i32_w]
    rfl
  refine pure_ (i := 13) (N := some 20) (v := ?_) (a' := ?_) #[true, true, true, true, true, true, true, true, true, true, true, true, true, true, false, true, false, false, false, false] rfl rfl (any_of HT_.out (by kernel_rfl)) (fun _ _ _ h => h) (Or.inl ⟨by rfl, ?_⟩) ?_ ?_
  rotate_left
  · intro w'
    go_simp
    with_reducible rfl
  rotate_left
  · simp only [Act.put, List.setIfInBounds_toArray, List.set_cons_zero, List.set_cons_succ, i64_w, i32_w]
    rfl
  refine take_ (i := 14) (N := some 21) (v := ?_) (a' := ?_) #[true, true, true, true, true, true, true, true, true, true, true, true, true, true, true, true, false, false, false, false] rfl rfl (take_ofW HT_.out HW_.out (by kernel_rfl)) (fun _ _ _ h => h) (Or.inl ⟨by rfl, ?_⟩) hHeld ?_ ?_
  rotate_left
  · rintro w' ⟨t0, t1, t2, t3, t4, t5, t6, t7⟩
    go_simp
    with_reducible rfl
  rotate_left
  · simp only [Act.put, List.setIfInBounds_toArray, List.set_cons_zero, List.set_cons_succ, i64_w, i32_w]
    rfl
  refine pure_ (i := 16) (N := some 23) (v := ?_) (a' := ?_) #[true, true, true, true, true, true, true, true, true, true, true, true, true, true, true, true, true, false, false, false] rfl rfl (any_of HT_.out (by kernel_rfl)) (fun _ _ _ h => h) (Or.inl ⟨by rfl, ?_⟩) ?_ ?_
  rotate_left
  · intro w'
    go_simp
    with_reducible rfl
  rotate_left
  · simp only [Act.put, List.setIfInBounds_toArray, List.set_cons_zero, List.set_cons_succ, i64_w, i32_w]
    rfl
  refine take_ (i := 17) (N := some 24) (v := ?_) (a' := ?_) #[true, true, true, true, true, true, true, true, true, true, true, true, true, true, true, true, true, true, false, false] rfl rfl (take_ofW HT_.out HW_.out (by kernel_rfl)) (fun _ _ _ h => h) (Or.inl ⟨by rfl, ?_⟩) hHeld ?_ ?_
  rotate_left
  · rintro w' ⟨t0, t1, t2, t3, t4, t5, t6, t7⟩
    go_simp
    with_reducible rfl
  rotate_left
  · simp only [Act.put, List.setIfInBounds_toArray, List.set_cons_zero, List.set_cons_succ, i64_w, i32_w]
    rfl
  refine pure_ (i := 18) (N := some 25) (v := ?_) (a' := ?_) #[true, true, true, true, true, true, true, true, true, true, true, true, true, true, true, true, true, true, true, false] rfl rfl (any_of HT_.out (by kernel_rfl)) (fun _ _ _ h => h) (Or.inl ⟨by rfl, ?_⟩) ?_ ?_
  rotate_left
  · intro w'
    go_simp
    with_reducible rfl
  rotate_left
  · simp only [Act.put, List.setIfInBounds_toArray, List.set_cons_zero, List.set_cons_succ, i64_w, i32_w]
    rfl
  refine last_ (i := 19) (N := none) #[true, true, true, true, true, true, true, true, true, true, true, true, true, true, true, true, true, true, true, true] rfl rfl (one_of HT_.out (by kernel_rfl)) (by decide) (fun K hK => ?_)
  refine skip_ (w1 := ?_) (by rfl) rfl ?_ ?_
  rotate_left
  · go_simp
    rfl
  refine hK.out _ _ ?_
  clear hK K
  refine done_ (done_of HT_.out (by kernel_rfl)) ?_
  clear HT_ HW_ hHeld ka kb ku kv ks kt s0 s1 HBD
  go_wp2
  refine bodyPost_ret (v := .agg #[.int .i64 y0, .int .i64 y1]) (by simp [results, Try.results67, go_sem]) rfl ⟨rfl, ?_⟩
  exact below_drew (below_alloc (below_alloc (Below.refl _ _) _) _)
def pdX (a : List Bool) (n : List (List Int)) (b : List Bool) (m : List (List Int)) (kind : Int) : Ex Pr := (expl (gdP (bothB kind) a b) (nxP n m) 1600 1602 ([((0 : Int), (0 : Int))], [], []) 0).getD ([], [], [])
def pdR (a : List Bool) (n : List (List Int)) (b : List Bool) (m : List (List Int)) (kind : Int) : List Bool × List (List Int) × Bool := if (validD a n = true ∧ validD b m = true) ∧ (kind = 6 ∨ kind = 7) then fitD (pdX a n b m kind).2.1 (pdX a n b m kind).2.2 else ([], [], false)
theorem pair_sc {a b : List Bool} {n m : List (List Int)} (hv : validD a n = true) (hw : validD b m = true) : ∀ x : Pr, ((0 ≤ x.1 ∧ x.1 < (a.length : Int)) ∧ 0 ≤ x.2 ∧ x.2 < (b.length : Int)) → ∀ y ∈ sc (nxP n m) x, ((0 ≤ y.1 ∧ y.1 < (a.length : Int)) ∧ 0 ≤ y.2 ∧ y.2 < (b.length : Int)) := fun x hx y hy => by
  simp only [sc, tl, List.mem_cons, List.not_mem_nil, or_false] at hy
  rcases hy with rfl | rfl | rfl
  · exact pair_dom hv hw x 0 hx (by omega)
  · exact pair_dom hv hw x 1 hx (by omega)
  · exact pair_dom hv hw x 2 hx (by omega)
theorem pd_some {a b : List Bool} {n m : List (List Int)} {kind : Int} (hv : validD a n = true) (hw : validD b m = true) : ∃ q, expl (gdP (bothB kind) a b) (nxP n m) 1600 1602 ([((0 : Int), (0 : Int))], [], []) 0 = some q ∧ pdX a n b m kind = q ∧ Auto (gdP (bothB kind) a b) (nxP n m) ((0 : Int), (0 : Int)) q.2.1 q.2.2 ∧ q.2.1.length ≤ 1600 := by
  obtain ⟨h1, h2, _⟩ := validD_facts hv
  obtain ⟨g1, g2, _⟩ := validD_facts hw
  have hN : a.length * b.length ≤ 40 * 40 := Nat.mul_le_mul h2 g2
  cases he : expl (gdP (bothB kind) a b) (nxP n m) 1600 1602 ([((0 : Int), (0 : Int))], [], []) 0 with
  | some q =>
    obtain ⟨e1, e2⟩ := expl_auto (most := 1600) (by omega) he
    exact ⟨q, rfl, by unfold pdX; rw [he]; rfl, e1, e2⟩
  | none =>
    have h0 : ∀ x ∈ [((0 : Int), (0 : Int))], (0 ≤ x.1 ∧ x.1 < (a.length : Int)) ∧ 0 ≤ x.2 ∧ x.2 < (b.length : Int) := fun x hx => by rw [List.mem_singleton] at hx; subst hx; exact ⟨⟨by show (0 : Int) ≤ 0; omega, by show (0 : Int) < _; omega⟩, by show (0 : Int) ≤ 0; omega, by show (0 : Int) < _; omega⟩
    obtain ⟨R, hR⟩ := Runs.ends (succ := sc (nxP n m)) (N := a.length * b.length) (pair_sc hv hw) (fun s hn hs => card_pairs a.length b.length s hn hs) (a.length * b.length) [((0 : Int), (0 : Int))] 0 (by simp) h0 (by simp) (by omega)
    have h3 := expl_none 1602 _ 0 R he hR
    have h4 := card_pairs a.length b.length R (hR.nodup (by simp)) (hR.all (pair_sc hv hw) h0)
    omega
theorem wf_st {n : Nat} (hn : n ≤ 40) {x : Int} (h : 0 ≤ x ∧ x < (n : Int)) : wfI x := by simp [wfI, Lit.wf, IntKind.min, IntKind.max, IntKind.signed, IntKind.bits]; omega
theorem pd_fit {A : List Bool} {M : List (List Int)} (h1 : 1 ≤ A.length) (h2 : A.length ≤ 1600) (h3 : Rows3 A.length M) : impl_fitting.f A M = some (fitD A M) := by
  unfold impl_fitting.f impl_minimized.f
  rw [if_pos ⟨h3.1, by omega, h3.2, by omega, by omega⟩]
  unfold fitD
  simp only [Option.bind_some]
  by_cases h : (minD A M 0).1.length ≤ 40
  · rw [if_neg (show ¬ ((minD A M 0).1.length : Int) > 40 by omega), if_pos h]
  · rw [if_pos (show ((minD A M 0).1.length : Int) > 40 by omega), if_neg h]
set_option maxHeartbeats 4000000 in
set_option maxRecDepth 100000 in
theorem pdCalls (A0 : Option Addr) (c0 : Nat) (l0 : List Bool) (A1 : Option Addr) (c1 : Nat) (l1 : List (List Int)) (B0 : Option Addr) (d0 : Nat) (m0 : List Bool) (B1 : Option Addr) (d1 : Nat) (m1 : List (List Int)) (kind : Int) (w : World) (hr0 : Kd.C Kd.bool w A0 l0.length l0) (hr1 : Kd.C (Kd.slice 3 (Kd.int .i64)) w A1 l1.length l1) (hs0 : Kd.C Kd.bool w B0 m0.length m0) (hs1 : Kd.C (Kd.slice 3 (Kd.int .i64)) w B1 m1.length m1) :
    Calls Try.prog 20 #[.agg #[.slice A0 l0.length c0, .slice A1 l1.length c1], .agg #[.slice B0 m0.length d0, .slice B1 m1.length d1], .int .i64 kind] w fun e w' => ∃ v0 v1 : Value, e = .returned (.tuple #[.agg #[v0, v1], .bool (pdR l0 l1 m0 m1 kind).2.2]) ∧ Kd.R Kd.bool 4 w' w.heap.size (fun _ => True) v0 (pdR l0 l1 m0 m1 kind).1 ∧ Kd.S (Kd.slice 3 (Kd.int .i64)) 67 w' w.heap.size (fun _ => True) v1 (pdR l0 l1 m0 m1 kind).2.1 ∧ Below w.heap.size w w' := by
  have hu := Try.underlying27
  have HV := Aside0.mk (fun W (hb : Below w.heap.size w W) => validCalls A0 c0 l0 A1 c1 l1 W (Kd.C_below hr0 hb) (Kd.C_below hr1 hb))
  have HV2 := Aside0.mk (fun W (hb : Below w.heap.size w W) => validCalls B0 d0 m0 B1 d1 m1 W (Kd.C_below hs0 hb) (Kd.C_below hs1 hb))
  obtain ⟨OA, hOA⟩ : ∃ o : Obj, o = Obj.cells #[.slice A0 l0.length c0, .slice A1 l1.length c1] 27 := ⟨_, rfl⟩
  obtain ⟨OB, hOB⟩ : ∃ o : Obj, o = Obj.cells #[.slice B0 m0.length d0, .slice B1 m1.length d1] 27 := ⟨_, rfl⟩
  obtain ⟨OK, hOK⟩ : ∃ o : Obj, o = Obj.cells #[.int .i64 kind] 3 := ⟨_, rfl⟩
  obtain ⟨OD, hOD⟩ : ∃ o : Obj, o = Obj.cells #[.slice none 0 0, .slice none 0 0] 27 := ⟨_, rfl⟩
  have HB0 : Aside0 (Below w.heap.size w ((((w.alloc OA).alloc OB).alloc OK).alloc OD)) := ⟨below_alloc (below_alloc (below_alloc (below_alloc (Below.refl w.heap.size w) _) _) _) _⟩
  have KA0 : Aside0 (World.cell? ((((w.alloc OA).alloc OB).alloc OK).alloc OD) ⟨w.heap.size, 0, none⟩ = some (.slice A0 l0.length c0)) := ⟨by rw [hOA]; exact pw_cell_below (below_alloc (below_alloc (below_alloc (Below.refl _ _) _) _) _) (by simp)⟩
  have KA1 : Aside0 (World.cell? ((((w.alloc OA).alloc OB).alloc OK).alloc OD) ⟨w.heap.size, 1, none⟩ = some (.slice A1 l1.length c1)) := ⟨by rw [hOA]; exact pw_cell_below (below_alloc (below_alloc (below_alloc (Below.refl _ _) _) _) _) (by simp)⟩
  have KB0 : Aside0 (World.cell? ((((w.alloc OA).alloc OB).alloc OK).alloc OD) ⟨w.heap.size + 1, 0, none⟩ = some (.slice B0 m0.length d0)) := ⟨by rw [hOB]; exact pw_cell_below (below_alloc (below_alloc (Below.refl _ _) _) _) (by simp)⟩
  have KB1 : Aside0 (World.cell? ((((w.alloc OA).alloc OB).alloc OK).alloc OD) ⟨w.heap.size + 1, 1, none⟩ = some (.slice B1 m1.length d1)) := ⟨by rw [hOB]; exact pw_cell_below (below_alloc (below_alloc (Below.refl _ _) _) _) (by simp)⟩
  have KK0 : Aside0 (World.cell? ((((w.alloc OA).alloc OB).alloc OK).alloc OD) ⟨w.heap.size + 1 + 1, 0, none⟩ = some (.int .i64 kind)) := ⟨by
    subst hOK
    refine pw_cell_below (below_alloc (Below.refl _ _) _) ?_
    have h0 := (blk_cell (blk_new ((w.alloc OA).alloc OB) (Obj.cells #[.int .i64 kind] 3)) 0).trans (show (#[Value.int .i64 kind] : Array Value)[0]? = some (.int .i64 kind) from rfl)
    simpa using h0⟩
  have HR8 : Aside0 (((((w.alloc OA).alloc OB).alloc OK).alloc OD).heap[w.heap.size + 1 + 1 + 1]? = some (.cells #[.slice none 0 0, .slice none 0 0] 27 (0, 0))) := ⟨by
    have h0 := blk_new (((w.alloc OA).alloc OB).alloc OK) OD
    rw [hOD] at h0 ⊢
    simpa using h0⟩
  have HGE : Aside0 (w.heap.size ≤ w.heap.size + 1 + 1 + 1) := ⟨by omega⟩
  cases hv : validD l0 l1 with
  | false =>
    rw [hv] at HV
    have e : pdR l0 l1 m0 m1 kind = ([], [], false) := by unfold pdR; rw [hv]; rw [if_neg]; rintro ⟨⟨h, _⟩, _⟩; cases h
    rw [e]
    subst hOA hOB hOK hOD
    clear hv e hr0 hr1 hs0 hs1 HV2
    go_enter Try.func20, Try.ntmps20
    go_wp2_with (go_at_call 39; (with_reducible refine (HV.out _ ?hq0).mono ?_); (case hq0 => exact HB0.out); rintro e w1 ⟨rfl, hb⟩; have HB := Aside0.mk (below_then HB0.out HB0.out.size hb); have HR9 := Aside0.mk (blk_below HR8.out hb); have hcz0 : World.cell? w1 ⟨w.heap.size + 1 + 1 + 1, 0, none⟩ = some (.slice none 0 0) := (blk_cell HR9.out 0).trans rfl; have hcz1 : World.cell? w1 ⟨w.heap.size + 1 + 1 + 1, 1, none⟩ = some (.slice none 0 0) := (blk_cell HR9.out 1).trans rfl; have hfz0 := blk_frozen HR9.out 0; have hfz1 := blk_frozen HR9.out 1; clear hb)
    have HT4 : Aside0 (((w1.setCell ⟨w.heap.size + 1 + 1 + 1, 0, none⟩ (.slice none 0 0)).setCell ⟨w.heap.size + 1 + 1 + 1, 1, none⟩ (.slice none 0 0)).heap[w.heap.size + 1 + 1 + 1]? = some (.cells #[.slice none 0 0, .slice none 0 0] 27 (0, 0))) := ⟨blk_put (blk_put (cs' := #[.slice none 0 0, .slice none 0 0]) HR9.out 0 _ rfl) 1 _ rfl⟩
    refine bodyPost_ret (results_ct rfl _ _ (w.heap.size + 1 + 1 + 1) 27 #[.slice none 0 0, .slice none 0 0] (0, 0) _ rfl HT4.out Try.underlying27 rfl (by kernel_rfl)) rfl ?_
    exact ⟨_, _, rfl, Kd.R_nil _ _ _ _ _, Kd.S_nil _ _ _ _ _, below_set (below_set HB.out HGE.out) HGE.out⟩
  | true =>
    rw [hv] at HV
    cases hv2 : validD m0 m1 with
    | false =>
      rw [hv2] at HV2
      have e : pdR l0 l1 m0 m1 kind = ([], [], false) := by unfold pdR; rw [hv2]; rw [if_neg]; rintro ⟨⟨_, h⟩, _⟩; cases h
      rw [e]
      subst hOA hOB hOK hOD
      clear hv hv2 e hr0 hr1 hs0 hs1
      go_enter Try.func20, Try.ntmps20
      go_wp2_with (first | (go_at_call 39; (with_reducible refine (HV.out _ ?hq0).mono ?_); (case hq0 => exact HB0.out); rintro e w1 ⟨rfl, hb⟩; have HB1 := Aside0.mk (below_then HB0.out HB0.out.size hb); have HR1 := Aside0.mk (blk_below HR8.out hb); have ha0 := Aside0.mk (pw_cell_below hb KA0.out); have ha1 := Aside0.mk (pw_cell_below hb KA1.out); have hb0 := pw_cell_below hb KB0.out; have hb1 := pw_cell_below hb KB1.out; have hk0 := Aside0.mk (pw_cell_below hb KK0.out); clear hb) | (go_at_call 39; (with_reducible refine (HV2.out _ ?hq1).mono ?_); (case hq1 => exact HB1.out); rintro e w2 ⟨rfl, hb⟩; have HB := Aside0.mk (below_then HB1.out HB1.out.size hb); have HR9 := Aside0.mk (blk_below HR1.out hb); have hc0 := Aside0.mk (pw_cell_below hb ha0.out); have hc1 := Aside0.mk (pw_cell_below hb ha1.out); have hc2 := Aside0.mk (pw_cell_below hb hb0); have hc3 := Aside0.mk (pw_cell_below hb hb1); have hc4 := pw_cell_below hb hk0.out; have hcz0 : World.cell? w2 ⟨w.heap.size + 1 + 1 + 1, 0, none⟩ = some (.slice none 0 0) := (blk_cell HR9.out 0).trans rfl; have hcz1 : World.cell? w2 ⟨w.heap.size + 1 + 1 + 1, 1, none⟩ = some (.slice none 0 0) := (blk_cell HR9.out 1).trans rfl; have hfz0 := blk_frozen HR9.out 0; have hfz1 := blk_frozen HR9.out 1; clear hb hb0 hb1))
      have HT4 : Aside0 (((w2.setCell ⟨w.heap.size + 1 + 1 + 1, 0, none⟩ (.slice none 0 0)).setCell ⟨w.heap.size + 1 + 1 + 1, 1, none⟩ (.slice none 0 0)).heap[w.heap.size + 1 + 1 + 1]? = some (.cells #[.slice none 0 0, .slice none 0 0] 27 (0, 0))) := ⟨blk_put (blk_put (cs' := #[.slice none 0 0, .slice none 0 0]) HR9.out 0 _ rfl) 1 _ rfl⟩
      refine bodyPost_ret (results_ct rfl _ _ (w.heap.size + 1 + 1 + 1) 27 #[.slice none 0 0, .slice none 0 0] (0, 0) _ rfl HT4.out Try.underlying27 rfl (by kernel_rfl)) rfl ?_
      exact ⟨_, _, rfl, Kd.R_nil _ _ _ _ _, Kd.S_nil _ _ _ _ _, below_set (below_set HB.out HGE.out) HGE.out⟩
    | true =>
      rw [hv2] at HV2
      by_cases hkk : kind = 6 ∨ kind = 7
      · obtain ⟨q, he, hx, hau, hq16⟩ := pd_some (kind := kind) hv hv2
        have e : pdR l0 l1 m0 m1 kind = fitD q.2.1 q.2.2 := by unfold pdR; rw [if_pos ⟨⟨hv, hv2⟩, hkk⟩, hx]
        rw [e]
        obtain ⟨g1, g2⟩ := hau.rows
        have HFT := Aside0.mk (pd_fit g1 hq16 g2)
        generalize fitD q.2.1 q.2.2 = fr at HFT ⊢
        obtain ⟨f1, f2, f3⟩ := fr
        obtain ⟨n1, n2, n3, n4⟩ := validD_facts hv
        obtain ⟨k1, k2, k3, k4⟩ := validD_facts hv2
        have hrow := fun (x : Int) (h : 0 ≤ x ∧ x < (l0.length : Int)) => (fits_valid hv).row x h
        have hrow2 := fun (x : Int) (h : 0 ≤ x ∧ x < (m0.length : Int)) => (fits_valid hv2).row x h
        have hpd := pair_dom hv hv2
        have HEX : Aside0 (∀ (Ga Gb G : Nat) (W : World), Below w.heap.size w W → W.cell? ⟨Ga, 0, none⟩ = some (.slice A0 l0.length c0) → W.cell? ⟨Ga, 1, none⟩ = some (.slice A1 l1.length c1) → W.cell? ⟨Gb, 0, none⟩ = some (.slice B0 m0.length d0) → W.cell? ⟨Gb, 1, none⟩ = some (.slice B1 m1.length d1) → W.cell? ⟨G, 0, none⟩ = some (.int .i64 kind) →
            Calls Try.prog 65 #[.agg #[.int .i64 0, .int .i64 0], .int .i64 1600, .func (.func 66) #[] #[.pointer (some ⟨G, 0, none⟩), .pointer (some ⟨Ga, 0, none⟩), .pointer (some ⟨Gb, 0, none⟩)], .func (.func 67) #[] #[.pointer (some ⟨Ga, 0, none⟩), .pointer (some ⟨Gb, 0, none⟩)]] W (fun e w' => ∃ v0 v1 vl : Value, e = .returned (.tuple #[.agg #[v0, v1], vl, .bool true]) ∧ Kd.R Kd.bool 4 w' W.heap.size (fun _ => True) v0 q.2.1 ∧ Kd.S (Kd.slice 3 (Kd.int .i64)) 67 w' W.heap.size (fun _ => True) v1 q.2.2 ∧ Below W.heap.size W w')) := ⟨fun Ga Gb G W hb h0 h1 h2 h3 h4 => by
          have h := explored_pair (dom := fun x => (0 ≤ x.1 ∧ x.1 < (l0.length : Int)) ∧ 0 ≤ x.2 ∧ x.2 < (m0.length : Int)) 1600 (by omega) (by omega) (gdP (bothB kind) l0 m0) (nxP l1 m1) ((0 : Int), (0 : Int)) 66 67 #[.pointer (some ⟨G, 0, none⟩), .pointer (some ⟨Ga, 0, none⟩), .pointer (some ⟨Gb, 0, none⟩)] #[.pointer (some ⟨Ga, 0, none⟩), .pointer (some ⟨Gb, 0, none⟩)] (enters_of Try.func66 (by kernel_rfl) rfl) (enters_of Try.func67 (by kernel_rfl) rfl) W
            ⟨⟨by show (0 : Int) ≤ 0; omega, by show (0 : Int) < _; omega⟩, by show (0 : Int) ≤ 0; omega, by show (0 : Int) < _; omega⟩ hpd (fun x hx => ⟨wf_st n2 hx.1, wf_st k2 hx.2⟩)
            (fun x hx W' hb' => pdAcc A0 c0 l0 B0 d0 m0 G Ga Gb kind hkk x W' hx.1.1 hx.1.2 hx.2.1 hx.2.2 (pw_cell_below hb' h4) (pw_cell_below hb' h0) (pw_cell_below hb' h2) (Kd.C_below (Kd.C_below hr0 hb) hb') (Kd.C_below (Kd.C_below hs0 hb) hb'))
            (fun x j hx hj W' hb' => pdNext A1 c1 l1 B1 d1 m1 Ga Gb x j W' hx.1.1 (by have := hx.1.2; omega) hx.2.1 (by have := hx.2.2; omega) (by have := (hrow x.1 hx.1).1; unfold rowOf at this; rw [this]; exact hj) (by have := (hrow2 x.2 hx.2).1; unfold rowOf at this; rw [this]; exact hj) (pw_cell_below hb' h1) (pw_cell_below hb' h3) (Kd.C_below (Kd.C_below hr1 hb) hb') (Kd.C_below (Kd.C_below hs1 hb) hb'))
          have he' : expl (gdP (bothB kind) l0 m0) (nxP l1 m1) 1600 (1600 + 2) ([((0 : Int), (0 : Int))], [], []) 0 = some q := he
          rw [he'] at h
          exact h⟩
        subst hOA hOB hOK hOD
        clear hv hv2 e he hx hau hq16 g1 g2 hr0 hr1 hs0 hs1 n1 n2 n3 n4 k1 k2 k3 k4 hrow hrow2 hpd
        rcases hkk with rfl | rfl
        all_goals
          go_enter Try.func20, Try.ntmps20
          go_wp2_with (first | (go_at_call 39; (with_reducible refine (HV.out _ ?hq0).mono ?_); (case hq0 => exact HB0.out); rintro e w1 ⟨rfl, hb⟩; have HB1 := Aside0.mk (below_then HB0.out HB0.out.size hb); have HR1 := Aside0.mk (blk_below HR8.out hb); have ha0 := Aside0.mk (pw_cell_below hb KA0.out); have ha1 := Aside0.mk (pw_cell_below hb KA1.out); have hb0 := pw_cell_below hb KB0.out; have hb1 := pw_cell_below hb KB1.out; have hk0 := Aside0.mk (pw_cell_below hb KK0.out); clear hb) | (go_at_call 39; (with_reducible refine (HV2.out _ ?hq1).mono ?_); (case hq1 => exact HB1.out); rintro e w2 ⟨rfl, hb⟩; have HB := Aside0.mk (below_then HB1.out HB1.out.size hb); have HR9 := Aside0.mk (blk_below HR1.out hb); have hc0 := Aside0.mk (pw_cell_below hb ha0.out); have hc1 := Aside0.mk (pw_cell_below hb ha1.out); have hc2 := Aside0.mk (pw_cell_below hb hb0); have hc3 := Aside0.mk (pw_cell_below hb hb1); have hc4 := pw_cell_below hb hk0.out; have hcz0 : World.cell? w2 ⟨w.heap.size + 1 + 1 + 1, 0, none⟩ = some (.slice none 0 0) := (blk_cell HR9.out 0).trans rfl; have hcz1 : World.cell? w2 ⟨w.heap.size + 1 + 1 + 1, 1, none⟩ = some (.slice none 0 0) := (blk_cell HR9.out 1).trans rfl; have hfz0 := blk_frozen HR9.out 0; have hfz1 := blk_frozen HR9.out 1; clear hb hb0 hb1) | (go_at_call 65; (with_reducible refine (HEX.out w.heap.size (w.heap.size + 1) (w.heap.size + 1 + 1) _ ?z0 ?z1 ?z2 ?z3 ?z4 ?z5).mono ?_); (case z0 => exact HB.out); (case z1 => exact hc0.out); (case z2 => exact hc1.out); (case z3 => exact hc2.out); (case z4 => exact hc3.out); (case z5 => exact hc4); rintro e w3 ⟨v0, v1, vl, rfl, hq0, hq1, hb⟩; have HR10 := Aside0.mk (blk_below HR9.out hb); have HB3 := Aside0.mk (below_then HB.out HB.out.size hb); obtain ⟨E0, e0c, e0⟩ := Kd.R_slice hq0; subst e0; obtain ⟨E1, e1c, e1⟩ := Kd.S_slice hq1; subst e1; have HQ0 := Aside0.mk hq0; have HQ1 := Aside0.mk hq1; clear hq0 hq1 hb hcz0 hcz1 hfz0 hfz1) | (go_at_call 68; (with_reducible refine (impl_fitting.calls _ _ q.2.1 _ _ q.2.2 f1 f2 f3 _ ?y0 ?y1 ?y2 ?y3 HFT.out).mono ?_); (case y0 => exact Kd.C_below (Kd.R_reads' HQ0.out).2.2 (below_alloc (Below.refl _ _) _)); (case y1 => exact (Kd.R_reads' HQ0.out).2.1); (case y2 => exact Kd.C_below (Kd.S_reads' HQ1.out).2.2 (below_alloc (Below.refl _ _) _)); (case y3 => exact (Kd.S_reads' HQ1.out).2.1); rintro e w5 ⟨z0, z1, rfl, hz0, hz1, hb⟩; have HR11 := Aside0.mk (blk_below (blk_alloc HR10.out (Obj.cells #[.slice E0 q.2.1.length e0c, .slice E1 q.2.2.length e1c] 27)) hb); have hba := below_alloc HB3.out (Obj.cells #[.slice E0 q.2.1.length e0c, .slice E1 q.2.2.length e1c] 27); have HB5 := Aside0.mk (below_then hba hba.size hb); have HZ0 := Aside0.mk (Kd.R_lower hz0 hba.size); have HZ1 := Aside0.mk (Kd.S_lower hz1 hba.size); obtain ⟨Z0, z0c, e0⟩ := Kd.R_slice hz0; subst e0; obtain ⟨Z1, z1c, e1⟩ := Kd.S_slice hz1; subst e1; have hcz0 : World.cell? w5 ⟨w.heap.size + 1 + 1 + 1, 0, none⟩ = some (.slice none 0 0) := (blk_cell HR11.out 0).trans rfl; have hcz1 : World.cell? w5 ⟨w.heap.size + 1 + 1 + 1, 1, none⟩ = some (.slice none 0 0) := (blk_cell HR11.out 1).trans rfl; have hfz0 := blk_frozen HR11.out 0; have hfz1 := blk_frozen HR11.out 1; clear hz0 hz1 hb hba))
          have HB4' : Aside0 ((w5.setCell ⟨w.heap.size + 1 + 1 + 1, 0, none⟩ (.slice Z0 f1.length z0c)).heap[w.heap.size + 1 + 1 + 1]? = some (.cells #[.slice Z0 f1.length z0c, .slice none 0 0] 27 (0, 0))) := ⟨blk_put HR11.out 0 _ rfl⟩
          have HT4 : Aside0 (((w5.setCell ⟨w.heap.size + 1 + 1 + 1, 0, none⟩ (.slice Z0 f1.length z0c)).setCell ⟨w.heap.size + 1 + 1 + 1, 1, none⟩ (.slice Z1 f2.length z1c)).heap[w.heap.size + 1 + 1 + 1]? = some (.cells #[.slice Z0 f1.length z0c, .slice Z1 f2.length z1c] 27 (0, 0))) := ⟨blk_put HB4'.out 1 _ rfl⟩
          refine bodyPost_ret (results_ct rfl _ _ (w.heap.size + 1 + 1 + 1) 27 #[.slice Z0 f1.length z0c, .slice Z1 f2.length z1c] (0, 0) _ rfl HT4.out Try.underlying27 rfl (by kernel_rfl)) rfl ?_
          exact ⟨_, _, rfl, Kd.R_set (Kd.R_set HZ0.out HR11.out (by decide) 0 _) HB4'.out (by decide) 1 _, Kd.S_set (Kd.S_set HZ1.out HR11.out (by decide) 0 _) HB4'.out (by decide) 1 _, below_set (below_set HB5.out HGE.out) HGE.out⟩
      · have e : pdR l0 l1 m0 m1 kind = ([], [], false) := by unfold pdR; rw [if_neg]; rintro ⟨_, h⟩; exact hkk h
        rw [e]
        subst hOA hOB hOK hOD
        have k6 : (kind = 6) = False := eq_false (fun h => hkk (Or.inl h))
        have k7 : (kind = 7) = False := eq_false (fun h => hkk (Or.inr h))
        have k6b : (kind == 6) = false := beq_eq_false_iff_ne.mpr (fun h => hkk (Or.inl h))
        have k7b : (kind == 7) = false := beq_eq_false_iff_ne.mpr (fun h => hkk (Or.inr h))
        have k6c : (kind != 6) = true := by rw [bne, k6b]; rfl
        have k7c : (kind != 7) = true := by rw [bne, k7b]; rfl
        have k6d : decide (kind = 6) = false := decide_eq_false (fun h => hkk (Or.inl h))
        have k7d : decide (kind = 7) = false := decide_eq_false (fun h => hkk (Or.inr h))
        clear hv hv2 e hr0 hr1 hs0 hs1 hkk
        go_enter Try.func20, Try.ntmps20
        go_wp2_with (first | (go_at_call 39; (with_reducible refine (HV.out _ ?hq0).mono ?_); (case hq0 => exact HB0.out); rintro e w1 ⟨rfl, hb⟩; have HB1 := Aside0.mk (below_then HB0.out HB0.out.size hb); have HR1 := Aside0.mk (blk_below HR8.out hb); have ha0 := Aside0.mk (pw_cell_below hb KA0.out); have ha1 := Aside0.mk (pw_cell_below hb KA1.out); have hb0 := pw_cell_below hb KB0.out; have hb1 := pw_cell_below hb KB1.out; have hk0 := Aside0.mk (pw_cell_below hb KK0.out); clear hb) | (go_at_call 39; (with_reducible refine (HV2.out _ ?hq1).mono ?_); (case hq1 => exact HB1.out); rintro e w2 ⟨rfl, hb⟩; have HB := Aside0.mk (below_then HB1.out HB1.out.size hb); have HR9 := Aside0.mk (blk_below HR1.out hb); have hc0 := Aside0.mk (pw_cell_below hb ha0.out); have hc1 := Aside0.mk (pw_cell_below hb ha1.out); have hc2 := Aside0.mk (pw_cell_below hb hb0); have hc3 := Aside0.mk (pw_cell_below hb hb1); have hc4 := pw_cell_below hb hk0.out; have hcz0 : World.cell? w2 ⟨w.heap.size + 1 + 1 + 1, 0, none⟩ = some (.slice none 0 0) := (blk_cell HR9.out 0).trans rfl; have hcz1 : World.cell? w2 ⟨w.heap.size + 1 + 1 + 1, 1, none⟩ = some (.slice none 0 0) := (blk_cell HR9.out 1).trans rfl; have hfz0 := blk_frozen HR9.out 0; have hfz1 := blk_frozen HR9.out 1; clear hb hb0 hb1))
        have HT4 : Aside0 (((w2.setCell ⟨w.heap.size + 1 + 1 + 1, 0, none⟩ (.slice none 0 0)).setCell ⟨w.heap.size + 1 + 1 + 1, 1, none⟩ (.slice none 0 0)).heap[w.heap.size + 1 + 1 + 1]? = some (.cells #[.slice none 0 0, .slice none 0 0] 27 (0, 0))) := ⟨blk_put (blk_put (cs' := #[.slice none 0 0, .slice none 0 0]) HR9.out 0 _ rfl) 1 _ rfl⟩
        refine bodyPost_ret (results_ct rfl _ _ (w.heap.size + 1 + 1 + 1) 27 #[.slice none 0 0, .slice none 0 0] (0, 0) _ rfl HT4.out Try.underlying27 rfl (by kernel_rfl)) rfl ?_
        exact ⟨_, _, rfl, Kd.R_nil _ _ _ _ _, Kd.S_nil _ _ _ _ _, below_set (below_set HB.out HGE.out) HGE.out⟩
end Go.Proofs.Ytogamkblkoobkaa.Wk
end
section
namespace Go.Proofs.Ytogamkblkoobkaa.P
open Go.RowKit Go.Proofs.YtogamkblkoobkaaW.PrintWords Go.Proofs.YtogamkblkoobkaaW.PrintLast Go.Proofs.YtogamkblkoobkaaW.PrintMore
attribute [local go_sem] max2_int min2_int max_two min_two max_three min_three max_four min_four
set_option linter.unusedVariables false
set_option linter.unusedSimpArgs false
def spec_l5Fits.f (k : Nat) (l0_0 : List Bool) (l0_1 : List (List Int)) : Option (List Bool × (List (List Int)) × Bool) := (spec_l5Minimal.f k l0_0 l0_1).bind fun bt266 => ((spec_IsValidDfa.f k bt266.1 bt266.2).bind fun t273 => (if t273 = true then (some (bt266.1, bt266.2, true)) else (some (([] : List Bool), ([] : List (List Int)), false))))
theorem spec_l5Fits.mono : ∀ a0 a1 k, LeO (spec_l5Fits.f k a0 a1) (spec_l5Fits.f (k + 1) a0 a1) := by
 intro a0 a1 k
 unfold spec_l5Fits.f
 repeat' first
   | (with_reducible exact spec_IsValidDfa.mono _ _ _)
   | (with_reducible exact spec_l5Minimal.mono _ _ _)
   | (with_reducible exact LeO.refl _)
   | (with_reducible exact LeO.none _)
   | (with_reducible refine LeO.ite ?_ ?_)
   | (with_reducible refine LeO.bind ?_ (fun _ => ?_))
   | exact spec_IsValidDfa.mono _ _ _
   | exact spec_l5Minimal.mono _ _ _
   | exact LeO.none _
   | refine LeO.ite ?_ ?_
   | refine LeO.bind ?_ (fun _ => ?_)
set_option maxHeartbeats 8000000 in
set_option maxRecDepth 100000 in
theorem spec_l5Fits.calls (k : Nat) (A0_0 : Option Addr) (c0_0 : Nat) (l0_0 : List Bool) (A0_1 : Option Addr) (c0_1 : Nat) (l0_1 : List (List Int)) (r1 : List Bool) (r2 : List (List Int)) (r3 : Bool) (w : World) (hr0_0 : Kd.C Kd.bool w A0_0 l0_0.length l0_0) (hc0_0 : l0_0.length ≤ c0_0) (hr0_1 : Kd.C (Kd.slice 3 (Kd.int .i64)) w A0_1 l0_1.length l0_1) (hc0_1 : l0_1.length ≤ c0_1) (h : spec_l5Fits.f k l0_0 l0_1 = some (r1, r2, r3)) :
  Calls Try.prog 64 #[.agg #[.slice A0_0 l0_0.length c0_0, .slice A0_1 l0_1.length c0_1]] w fun e w' => ∃ v0_ v1_ : Value, e = .returned (.tuple #[.agg #[v0_, v1_], .bool r3]) ∧ Kd.R Kd.bool 4 w' w.heap.size (fun _ => True) v0_ r1 ∧ Kd.S (Kd.slice 3 (Kd.int .i64)) 67 w' w.heap.size (fun _ => True) v1_ r2 ∧ Below w.heap.size w w' := by
 have hu27 := Try.underlying27
 have HR0_0 := Aside0.mk hr0_0
 have HC0_0 := Aside0.mk hc0_0
 clear hr0_0 hc0_0
 have HR0_1 := Aside0.mk hr0_1
 have HC0_1 := Aside0.mk hc0_1
 clear hr0_1 hc0_1
 have HB := Aside0.mk (Below.refl w.heap.size w)
 have H : ((spec_l5Minimal.f k l0_0 l0_1).bind fun bt266 => ((spec_IsValidDfa.f k bt266.1 bt266.2).bind fun t273 => (if t273 = true then (some (bt266.1, bt266.2, true)) else (some (([] : List Bool), ([] : List (List Int)), false))))) = some (r1, r2, r3) := h
 clear h
 replace H := Option.bind_eq_some_iff.mp H
 obtain ⟨⟨t266, t269⟩, A20, H⟩ := H
 replace H : ((spec_IsValidDfa.f k t266 t269).bind fun t273 => (if t273 = true then (some (t266, t269, true)) else (some (([] : List Bool), ([] : List (List Int)), false)))) = some (r1, r2, r3) := H
 have A2 := Aside0.mk A20
 clear A20
 replace H := Option.bind_eq_some_iff.mp H
 obtain ⟨t273, A30, H⟩ := H
 replace H : (if t273 = true then (some (t266, t269, true)) else (some (([] : List Bool), ([] : List (List Int)), false))) = some (r1, r2, r3) := H
 have A3 := Aside0.mk A30
 clear A30
 by_cases c4 : t273 = true
 ·subst c4
  have H1 : (some (t266, t269, true)) = some (r1, r2, r3) := by rw [if_pos rfl] at H; exact H
  clear H
  have H := H1
  clear H1
  simp only [Option.some.injEq, Prod.mk.injEq] at H
  obtain ⟨rfl, rfl, rfl⟩ := H
  go_enter Try.func64, Try.ntmps64
  go_wp2_with (first | ((with_reducible refine gate_dst (N := 1) rfl ?_); refine box_event ?hg (N := 1) ?hd (cs := #[.slice A0_0 l0_0.length c0_0, .slice A0_1 l0_1.length c0_1]) (t := 27) ?hr ?_; (case hd => rfl); (case hg => rfl); (case hr => first | (go_simp; done) | (go_simp; rfl)); intro gb264 hg w5 hbox hb; have n0_ := Aside0.mk (below_step (by repeat (first | (with_reducible first | exact HB.out | apply below_alloc | apply pw_below_drewN | apply below_drew1) | exact HB.out)) hb); have n1_ := Aside0.mk (hbox); have n2_ := Aside0.mk ((by rw [hg]; exact (below_size (by repeat (first | (with_reducible first | exact HB.out | apply below_alloc | apply pw_below_drewN | apply below_drew1) | exact HB.out))) : w.heap.size ≤ gb264)); have n3_ := Aside0.mk ((by rw [hg]; exact (below_size (by repeat (first | (with_reducible first | exact HB.out | apply below_alloc | apply pw_below_drewN | apply below_drew1) | exact HB.out))) : w.heap.size ≤ gb264)); clear HB; have HB := n0_; have BK264 := n1_; have GW264 := n2_; have GE264 := n3_; clear n0_ n1_ n2_ n3_; clear hb hbox hg) | ((with_reducible refine gate_dst (N := 2) rfl ?_); refine box_event ?hg (N := 2) ?hd (cs := #[.slice none 0 0, .slice none 0 0]) (t := 27) ?hr ?_; (case hd => rfl); (case hg => rfl); (case hr => first | (go_simp; done) | (go_simp; rfl)); intro gb265 hg w6 hbox hb; have n0_ := Aside0.mk (blk_below (g := gb264) (o := .cells #[.slice A0_0 l0_0.length c0_0, .slice A0_1 l0_1.length c0_1] 27 (0, 0)) (by (with_reducible repeat (first | refine blk_drewN ?_ _ | refine blk_drew ?_ | refine blk_alloc ?_ _)); exact BK264.out) hb); have n1_ := Aside0.mk (below_step (by repeat (first | (with_reducible first | exact HB.out | apply below_alloc | apply pw_below_drewN | apply below_drew1 | refine below_set ?_ GE264.out) | exact HB.out)) hb); have n2_ := Aside0.mk (hbox); have n3_ := Aside0.mk ((by rw [hg]; exact (below_size (by repeat (first | (with_reducible first | exact HB.out | apply below_alloc | apply pw_below_drewN | apply below_drew1 | refine below_set ?_ GE264.out) | exact HB.out))) : w.heap.size ≤ gb265)); have n4_ := Aside0.mk ((by rw [hg]; exact (below_size (by repeat (first | (with_reducible first | exact HB.out | apply below_alloc | apply pw_below_drewN | apply below_drew1 | refine below_set ?_ GE264.out) | exact HB.out))) : w.heap.size ≤ gb265)); have n5_ := Aside0.mk ((by rw [hg]; exact Nat.ne_of_lt (blk_lt (g := gb264) (o := .cells #[.slice A0_0 l0_0.length c0_0, .slice A0_1 l0_1.length c0_1] 27 (0, 0)) (by (with_reducible repeat (first | refine blk_drewN ?_ _ | refine blk_drew ?_ | refine blk_alloc ?_ _)); exact BK264.out)) : gb264 ≠ gb265)); have n6_ := Aside0.mk ((by rw [hg]; exact Nat.ne_of_gt (blk_lt (g := gb264) (o := .cells #[.slice A0_0 l0_0.length c0_0, .slice A0_1 l0_1.length c0_1] 27 (0, 0)) (by (with_reducible repeat (first | refine blk_drewN ?_ _ | refine blk_drew ?_ | refine blk_alloc ?_ _)); exact BK264.out)) : gb265 ≠ gb264)); clear BK264; clear HB; have BK264 := n0_; have HB := n1_; have BK265 := n2_; have GW265 := n3_; have GE265 := n4_; have NB264_265 := n5_; have NB265_264 := n6_; clear n0_ n1_ n2_ n3_ n4_ n5_ n6_; clear hb hbox hg; have hnb7 := NB264_265.out; have hnc7 := NB265_264.out; have hcz8_0 : w6.cell? ⟨gb264, 0, none⟩ = some (.slice A0_0 l0_0.length c0_0) := (blk_cell BK264.out 0).trans rfl; have hcz8_1 : w6.cell? ⟨gb264, 1, none⟩ = some (.slice A0_1 l0_1.length c0_1) := (blk_cell BK264.out 1).trans rfl; have hfz8_0 := blk_frozen BK264.out 0; have hfz8_1 := blk_frozen BK264.out 1) | ((with_reducible refine gate_callee (f := 94) rfl ?_); refine goesL_ (some 6) rfl rfl Try.func94 (by kernel_rfl) rfl #[.agg #[.slice A0_0 l0_0.length c0_0, .slice A0_1 l0_1.length c0_1]] rfl (by (try simp only [List.map_toArray, List.map_cons, List.map_nil]); first | done | rfl | (simp only [List.length_drop, List.length_take]; rfl)) ?_; (with_reducible refine (spec_l5Minimal.calls k _ _ l0_0 _ _ l0_1 t266 t269 _ ?side1 ?side2 ?side3 ?side4 A2.out).mono ?_); (case side1 => repeat (first | exact (Kd.C_below HR0_0.out HB.out) | (with_reducible refine Kd.C_alloc ?_ _) | (with_reducible refine Kd.C_drewN ?_ _) | (with_reducible refine Kd.C_drew ?_))); (case side2 => exact HC0_0.out); (case side3 => repeat (first | exact (Kd.C_below HR0_1.out HB.out) | (with_reducible refine Kd.C_alloc ?_ _) | (with_reducible refine Kd.C_drewN ?_ _) | (with_reducible refine Kd.C_drew ?_))); (case side4 => exact HC0_1.out); rintro e w9 ⟨v267, v270, rfl, ho0, ho1, hb⟩; refine ⟨_, rfl, ?_⟩; have n0_ := Aside0.mk (Kd.R_lower ho0 (below_size (by repeat (first | (with_reducible first | exact HB.out | apply below_alloc | apply pw_below_drewN | apply below_drew1 | refine below_set ?_ GE264.out | refine below_set ?_ GE265.out) | exact HB.out)))); have n1_ := Aside0.mk (Kd.S_lower ho1 (below_size (by repeat (first | (with_reducible first | exact HB.out | apply below_alloc | apply pw_below_drewN | apply below_drew1 | refine below_set ?_ GE264.out | refine below_set ?_ GE265.out) | exact HB.out)))); have n2_ := Aside0.mk (blk_below (g := gb264) (o := .cells #[.slice A0_0 l0_0.length c0_0, .slice A0_1 l0_1.length c0_1] 27 (0, 0)) (by (with_reducible repeat (first | refine blk_drewN ?_ _ | refine blk_drew ?_ | refine blk_alloc ?_ _)); exact BK264.out) hb); have n3_ := Aside0.mk (blk_below (g := gb265) (o := .cells #[.slice none 0 0, .slice none 0 0] 27 (0, 0)) (by (with_reducible repeat (first | refine blk_drewN ?_ _ | refine blk_drew ?_ | refine blk_alloc ?_ _)); exact BK265.out) hb); have n4_ := Aside0.mk (below_step (by repeat (first | (with_reducible first | exact HB.out | apply below_alloc | apply pw_below_drewN | apply below_drew1 | refine below_set ?_ GE264.out | refine below_set ?_ GE265.out) | exact HB.out)) hb); clear BK264; clear BK265; clear HB; have HO268 := n0_; have HO271 := n1_; have BK264 := n2_; have BK265 := n3_; have HB := n4_; clear n0_ n1_ n2_ n3_ n4_; (try clear hb); (try clear hb2); (try clear hk); (try clear hi); (try clear ho0); (try clear ho1)) | ((with_reducible refine gate_dst (N := 4) rfl ?_); refine box_event ?hg (N := 4) ?hd (cs := #[.slice none 0 0, .slice none 0 0]) (t := 27) ?hr ?_; (case hd => rfl); (case hg => rfl); (case hr => first | (go_simp; done) | (go_simp; rfl)); intro gb272 hg w10 hbox hb; have n0_ := Aside0.mk (Kd.R_below (by (with_reducible repeat (first | apply Kd.R_alloc | apply Kd.R_drewN | apply Kd.R_drew)); exact HO268.out) hb); have n1_ := Aside0.mk (Kd.S_below (by (with_reducible repeat (first | apply Kd.S_alloc | apply Kd.S_drewN | apply Kd.S_drew)); exact HO271.out) hb); have n2_ := Aside0.mk (blk_below (g := gb264) (o := .cells #[.slice A0_0 l0_0.length c0_0, .slice A0_1 l0_1.length c0_1] 27 (0, 0)) (by (with_reducible repeat (first | refine blk_drewN ?_ _ | refine blk_drew ?_ | refine blk_alloc ?_ _)); exact BK264.out) hb); have n3_ := Aside0.mk (blk_below (g := gb265) (o := .cells #[.slice none 0 0, .slice none 0 0] 27 (0, 0)) (by (with_reducible repeat (first | refine blk_drewN ?_ _ | refine blk_drew ?_ | refine blk_alloc ?_ _)); exact BK265.out) hb); have n4_ := Aside0.mk (below_step (by repeat (first | (with_reducible first | exact HB.out | apply below_alloc | apply pw_below_drewN | apply below_drew1 | refine below_set ?_ GE264.out | refine below_set ?_ GE265.out) | exact HB.out)) hb); have n5_ := Aside0.mk (hbox); have n6_ := Aside0.mk ((by rw [hg]; exact (below_size (by repeat (first | (with_reducible first | exact HB.out | apply below_alloc | apply pw_below_drewN | apply below_drew1 | refine below_set ?_ GE264.out | refine below_set ?_ GE265.out) | exact HB.out))) : w.heap.size ≤ gb272)); have n7_ := Aside0.mk ((by rw [hg]; exact (below_size (by repeat (first | (with_reducible first | exact HB.out | apply below_alloc | apply pw_below_drewN | apply below_drew1 | refine below_set ?_ GE264.out | refine below_set ?_ GE265.out) | exact HB.out))) : w.heap.size ≤ gb272)); have n8_ := Aside0.mk ((by rw [hg]; exact Nat.ne_of_lt (blk_lt (g := gb264) (o := .cells #[.slice A0_0 l0_0.length c0_0, .slice A0_1 l0_1.length c0_1] 27 (0, 0)) (by (with_reducible repeat (first | refine blk_drewN ?_ _ | refine blk_drew ?_ | refine blk_alloc ?_ _)); exact BK264.out)) : gb264 ≠ gb272)); have n9_ := Aside0.mk ((by rw [hg]; exact Nat.ne_of_gt (blk_lt (g := gb264) (o := .cells #[.slice A0_0 l0_0.length c0_0, .slice A0_1 l0_1.length c0_1] 27 (0, 0)) (by (with_reducible repeat (first | refine blk_drewN ?_ _ | refine blk_drew ?_ | refine blk_alloc ?_ _)); exact BK264.out)) : gb272 ≠ gb264)); have n10_ := Aside0.mk ((by rw [hg]; exact Nat.ne_of_lt (blk_lt (g := gb265) (o := .cells #[.slice none 0 0, .slice none 0 0] 27 (0, 0)) (by (with_reducible repeat (first | refine blk_drewN ?_ _ | refine blk_drew ?_ | refine blk_alloc ?_ _)); exact BK265.out)) : gb265 ≠ gb272)); have n11_ := Aside0.mk ((by rw [hg]; exact Nat.ne_of_gt (blk_lt (g := gb265) (o := .cells #[.slice none 0 0, .slice none 0 0] 27 (0, 0)) (by (with_reducible repeat (first | refine blk_drewN ?_ _ | refine blk_drew ?_ | refine blk_alloc ?_ _)); exact BK265.out)) : gb272 ≠ gb265)); clear HO268; clear HO271; clear BK264; clear BK265; clear HB; have HO268 := n0_; have HO271 := n1_; have BK264 := n2_; have BK265 := n3_; have HB := n4_; have BK272 := n5_; have GW272 := n6_; have GE272 := n7_; have NB264_272 := n8_; have NB272_264 := n9_; have NB265_272 := n10_; have NB272_265 := n11_; clear n0_ n1_ n2_ n3_ n4_ n5_ n6_ n7_ n8_ n9_ n10_ n11_; clear hb hbox hg; obtain ⟨Ao11, co11, eo11⟩ := Kd.R_slice HO268.out; subst eo11; have hnb12 := NB272_264.out; have hnc12 := NB264_272.out; have hnb13 := NB272_265.out; have hnc13 := NB265_272.out; have hcz14_0 : w10.cell? ⟨gb272, 0, none⟩ = some (.slice none 0 0) := (blk_cell BK272.out 0).trans rfl; have hcz14_1 : w10.cell? ⟨gb272, 1, none⟩ = some (.slice none 0 0) := (blk_cell BK272.out 1).trans rfl; have hfz14_0 := blk_frozen BK272.out 0; have hfz14_1 := blk_frozen BK272.out 1; obtain ⟨Ao15, co15, eo15⟩ := Kd.S_slice HO271.out; subst eo15) | ((with_reducible refine gate_callee (f := 35) rfl ?_); refine goesL_ (some 8) rfl rfl Try.func35 (by kernel_rfl) rfl #[.agg #[.slice Ao11 t266.length co11, .slice Ao15 t269.length co15]] rfl (by (try simp only [List.map_toArray, List.map_cons, List.map_nil]); first | done | rfl | (simp only [List.length_drop, List.length_take]; rfl)) ?_; (with_reducible refine (spec_IsValidDfa.calls k _ _ t266 _ _ t269 true _ ?side1 ?side2 ?side3 ?side4 A3.out).mono ?_); (case side1 => refine (Kd.R_reads' (e := 4) (base := w.heap.size) (ok := fun k_ => True) (n := t266.length) (c := co11) ?_).2.2; exact (by (with_reducible repeat (first | apply Kd.R_alloc | apply Kd.R_drewN | apply Kd.R_drew)); exact (Kd.R_mono (Kd.R_far (p := ⟨gb272, 1, none⟩) (Kd.R_far (p := ⟨gb272, 0, none⟩) (Kd.R_types HO268.out BK272.out (by decide)) (fun _ hk => hk.2) (.slice Ao11 t266.length co11)) (fun _ hk => hk.2) (.slice Ao15 t269.length co15)) (fun _ h_ => h_.1)))); (case side2 => exact (Kd.R_reads' HO268.out).2.1); (case side3 => refine (Kd.S_reads' (e := 67) (base := w.heap.size) (ok := fun k_ => True) (n := t269.length) (c := co15) ?_).2.2; exact (by (with_reducible repeat (first | apply Kd.S_alloc | apply Kd.S_drewN | apply Kd.S_drew)); exact (Kd.S_mono (Kd.S_far (p := ⟨gb272, 1, none⟩) (Kd.S_far (p := ⟨gb272, 0, none⟩) (Kd.S_types HO271.out BK272.out (by decide)) (fun _ hk => hk.2) (.slice Ao11 t266.length co11)) (fun _ hk => hk.2) (.slice Ao15 t269.length co15)) (fun _ h_ => h_.1)))); (case side4 => exact (Kd.S_reads' HO271.out).2.1); rintro e w16 ⟨rfl, hb⟩; refine ⟨_, rfl, ?_⟩; have n0_ := Aside0.mk (Kd.R_below (by (with_reducible repeat (first | apply Kd.R_alloc | apply Kd.R_drewN | apply Kd.R_drew)); exact (Kd.R_mono (Kd.R_far (p := ⟨gb272, 1, none⟩) (Kd.R_far (p := ⟨gb272, 0, none⟩) (Kd.R_types HO268.out BK272.out (by decide)) (fun _ hk => hk.2) (.slice Ao11 t266.length co11)) (fun _ hk => hk.2) (.slice Ao15 t269.length co15)) (fun _ h_ => h_.1))) hb); have n1_ := Aside0.mk (Kd.S_below (by (with_reducible repeat (first | apply Kd.S_alloc | apply Kd.S_drewN | apply Kd.S_drew)); exact (Kd.S_mono (Kd.S_far (p := ⟨gb272, 1, none⟩) (Kd.S_far (p := ⟨gb272, 0, none⟩) (Kd.S_types HO271.out BK272.out (by decide)) (fun _ hk => hk.2) (.slice Ao11 t266.length co11)) (fun _ hk => hk.2) (.slice Ao15 t269.length co15)) (fun _ h_ => h_.1))) hb); have n2_ := Aside0.mk (blk_below (g := gb264) (o := .cells #[.slice A0_0 l0_0.length c0_0, .slice A0_1 l0_1.length c0_1] 27 (0, 0)) (by (with_reducible repeat (first | refine blk_drewN ?_ _ | refine blk_drew ?_ | refine blk_alloc ?_ _)); refine blk_far ?_ NB264_272.out _; (with_reducible repeat (first | refine blk_drewN ?_ _ | refine blk_drew ?_ | refine blk_alloc ?_ _)); refine blk_far ?_ NB264_272.out _; (with_reducible repeat (first | refine blk_drewN ?_ _ | refine blk_drew ?_ | refine blk_alloc ?_ _)); exact BK264.out) hb); have n3_ := Aside0.mk (blk_below (g := gb265) (o := .cells #[.slice none 0 0, .slice none 0 0] 27 (0, 0)) (by (with_reducible repeat (first | refine blk_drewN ?_ _ | refine blk_drew ?_ | refine blk_alloc ?_ _)); refine blk_far ?_ NB265_272.out _; (with_reducible repeat (first | refine blk_drewN ?_ _ | refine blk_drew ?_ | refine blk_alloc ?_ _)); refine blk_far ?_ NB265_272.out _; (with_reducible repeat (first | refine blk_drewN ?_ _ | refine blk_drew ?_ | refine blk_alloc ?_ _)); exact BK265.out) hb); have n4_ := Aside0.mk (blk_below (g := gb272) (o := .cells #[.slice Ao11 t266.length co11, .slice Ao15 t269.length co15] 27 (0, 0)) (by (with_reducible repeat (first | refine blk_drewN ?_ _ | refine blk_drew ?_ | refine blk_alloc ?_ _)); refine blk_put (cs := #[.slice Ao11 t266.length co11, .slice none 0 0]) ?_ 1 _ rfl; (with_reducible repeat (first | refine blk_drewN ?_ _ | refine blk_drew ?_ | refine blk_alloc ?_ _)); refine blk_put (cs := #[.slice none 0 0, .slice none 0 0]) ?_ 0 _ rfl; (with_reducible repeat (first | refine blk_drewN ?_ _ | refine blk_drew ?_ | refine blk_alloc ?_ _)); exact BK272.out) hb); have n5_ := Aside0.mk (below_step (by repeat (first | (with_reducible first | exact HB.out | apply below_alloc | apply pw_below_drewN | apply below_drew1 | refine below_set ?_ GE264.out | refine below_set ?_ GE265.out | refine below_set ?_ GE272.out) | exact HB.out)) hb); clear HO268; clear HO271; clear BK264; clear BK265; clear BK272; clear HB; have HO268 := n0_; have HO271 := n1_; have BK264 := n2_; have BK265 := n3_; have BK272 := n4_; have HB := n5_; clear n0_ n1_ n2_ n3_ n4_ n5_; (try clear hb); (try clear hb2); (try clear hk); (try clear hi); have hcz17_0 : w16.cell? ⟨gb272, 0, none⟩ = some (.slice Ao11 t266.length co11) := (blk_cell BK272.out 0).trans rfl; have hcz17_1 : w16.cell? ⟨gb272, 1, none⟩ = some (.slice Ao15 t269.length co15) := (blk_cell BK272.out 1).trans rfl; have hfz17_0 := blk_frozen BK272.out 0; have hfz17_1 := blk_frozen BK272.out 1; have hcz18_0 : w16.cell? ⟨gb265, 0, none⟩ = some (.slice none 0 0) := (blk_cell BK265.out 0).trans rfl; have hcz18_1 : w16.cell? ⟨gb265, 1, none⟩ = some (.slice none 0 0) := (blk_cell BK265.out 1).trans rfl; have hfz18_0 := blk_frozen BK265.out 0; have hfz18_1 := blk_frozen BK265.out 1))
  refine bodyPost_ret (results_ct rfl _ _ gb265 27 #[.slice Ao11 t266.length co11, .slice Ao15 t269.length co15] (0, 0) _ rfl (by (with_reducible repeat (first | refine blk_drewN ?_ _ | refine blk_drew ?_ | refine blk_alloc ?_ _)); refine blk_put (cs := #[.slice Ao11 t266.length co11, .slice none 0 0]) ?_ 1 _ rfl; (with_reducible repeat (first | refine blk_drewN ?_ _ | refine blk_drew ?_ | refine blk_alloc ?_ _)); refine blk_put (cs := #[.slice none 0 0, .slice none 0 0]) ?_ 0 _ rfl; (with_reducible repeat (first | refine blk_drewN ?_ _ | refine blk_drew ?_ | refine blk_alloc ?_ _)); exact BK265.out) Try.underlying27 rfl (by kernel_rfl)) rfl ?_
  exact ⟨_, _, by first | rfl | (simp [errW_none, errW_some] <;> rfl) | (simp [*, errW_none, errW_some] <;> rfl), by (with_reducible repeat (first | apply Kd.R_alloc | apply Kd.R_drewN | apply Kd.R_drew)); exact Kd.R_mono (Kd.R_far (p := ⟨gb265, 1, none⟩) (Kd.R_far (p := ⟨gb265, 0, none⟩) (Kd.R_types HO268.out BK265.out (by decide)) (fun _ hk => hk.2) (.slice Ao11 t266.length co11)) (fun _ hk => hk.2) (.slice Ao15 t269.length co15)) (fun _ hk => trivial), by (with_reducible repeat (first | apply Kd.S_alloc | apply Kd.S_drewN | apply Kd.S_drew)); exact Kd.S_mono (Kd.S_far (p := ⟨gb265, 1, none⟩) (Kd.S_far (p := ⟨gb265, 0, none⟩) (Kd.S_types HO271.out BK265.out (by decide)) (fun _ hk => hk.2) (.slice Ao11 t266.length co11)) (fun _ hk => hk.2) (.slice Ao15 t269.length co15)) (fun _ hk => trivial), by repeat (first | (with_reducible first | exact HB.out | apply below_alloc | apply pw_below_drewN | apply below_drew1 | refine below_set ?_ GE264.out | refine below_set ?_ GE265.out | refine below_set ?_ GE272.out) | exact HB.out)⟩
 ·replace c4 := Bool.eq_false_iff.mpr c4
  subst c4
  have H1 : (some (([] : List Bool), ([] : List (List Int)), false)) = some (r1, r2, r3) := by rw [if_neg (show ¬ (false = true) by decide)] at H; exact H
  clear H
  have H := H1
  clear H1
  simp only [Option.some.injEq, Prod.mk.injEq] at H
  obtain ⟨rfl, rfl, rfl⟩ := H
  go_enter Try.func64, Try.ntmps64
  go_wp2_with (first | ((with_reducible refine gate_dst (N := 1) rfl ?_); refine box_event ?hg (N := 1) ?hd (cs := #[.slice A0_0 l0_0.length c0_0, .slice A0_1 l0_1.length c0_1]) (t := 27) ?hr ?_; (case hd => rfl); (case hg => rfl); (case hr => first | (go_simp; done) | (go_simp; rfl)); intro gb264 hg w19 hbox hb; have n0_ := Aside0.mk (below_step (by repeat (first | (with_reducible first | exact HB.out | apply below_alloc | apply pw_below_drewN | apply below_drew1) | exact HB.out)) hb); have n1_ := Aside0.mk (hbox); have n2_ := Aside0.mk ((by rw [hg]; exact (below_size (by repeat (first | (with_reducible first | exact HB.out | apply below_alloc | apply pw_below_drewN | apply below_drew1) | exact HB.out))) : w.heap.size ≤ gb264)); have n3_ := Aside0.mk ((by rw [hg]; exact (below_size (by repeat (first | (with_reducible first | exact HB.out | apply below_alloc | apply pw_below_drewN | apply below_drew1) | exact HB.out))) : w.heap.size ≤ gb264)); clear HB; have HB := n0_; have BK264 := n1_; have GW264 := n2_; have GE264 := n3_; clear n0_ n1_ n2_ n3_; clear hb hbox hg) | ((with_reducible refine gate_dst (N := 2) rfl ?_); refine box_event ?hg (N := 2) ?hd (cs := #[.slice none 0 0, .slice none 0 0]) (t := 27) ?hr ?_; (case hd => rfl); (case hg => rfl); (case hr => first | (go_simp; done) | (go_simp; rfl)); intro gb265 hg w20 hbox hb; have n0_ := Aside0.mk (blk_below (g := gb264) (o := .cells #[.slice A0_0 l0_0.length c0_0, .slice A0_1 l0_1.length c0_1] 27 (0, 0)) (by (with_reducible repeat (first | refine blk_drewN ?_ _ | refine blk_drew ?_ | refine blk_alloc ?_ _)); exact BK264.out) hb); have n1_ := Aside0.mk (below_step (by repeat (first | (with_reducible first | exact HB.out | apply below_alloc | apply pw_below_drewN | apply below_drew1 | refine below_set ?_ GE264.out) | exact HB.out)) hb); have n2_ := Aside0.mk (hbox); have n3_ := Aside0.mk ((by rw [hg]; exact (below_size (by repeat (first | (with_reducible first | exact HB.out | apply below_alloc | apply pw_below_drewN | apply below_drew1 | refine below_set ?_ GE264.out) | exact HB.out))) : w.heap.size ≤ gb265)); have n4_ := Aside0.mk ((by rw [hg]; exact (below_size (by repeat (first | (with_reducible first | exact HB.out | apply below_alloc | apply pw_below_drewN | apply below_drew1 | refine below_set ?_ GE264.out) | exact HB.out))) : w.heap.size ≤ gb265)); have n5_ := Aside0.mk ((by rw [hg]; exact Nat.ne_of_lt (blk_lt (g := gb264) (o := .cells #[.slice A0_0 l0_0.length c0_0, .slice A0_1 l0_1.length c0_1] 27 (0, 0)) (by (with_reducible repeat (first | refine blk_drewN ?_ _ | refine blk_drew ?_ | refine blk_alloc ?_ _)); exact BK264.out)) : gb264 ≠ gb265)); have n6_ := Aside0.mk ((by rw [hg]; exact Nat.ne_of_gt (blk_lt (g := gb264) (o := .cells #[.slice A0_0 l0_0.length c0_0, .slice A0_1 l0_1.length c0_1] 27 (0, 0)) (by (with_reducible repeat (first | refine blk_drewN ?_ _ | refine blk_drew ?_ | refine blk_alloc ?_ _)); exact BK264.out)) : gb265 ≠ gb264)); clear BK264; clear HB; have BK264 := n0_; have HB := n1_; have BK265 := n2_; have GW265 := n3_; have GE265 := n4_; have NB264_265 := n5_; have NB265_264 := n6_; clear n0_ n1_ n2_ n3_ n4_ n5_ n6_; clear hb hbox hg; have hnb21 := NB264_265.out; have hnc21 := NB265_264.out; have hcz22_0 : w20.cell? ⟨gb264, 0, none⟩ = some (.slice A0_0 l0_0.length c0_0) := (blk_cell BK264.out 0).trans rfl; have hcz22_1 : w20.cell? ⟨gb264, 1, none⟩ = some (.slice A0_1 l0_1.length c0_1) := (blk_cell BK264.out 1).trans rfl; have hfz22_0 := blk_frozen BK264.out 0; have hfz22_1 := blk_frozen BK264.out 1) | ((with_reducible refine gate_callee (f := 94) rfl ?_); refine goesL_ (some 6) rfl rfl Try.func94 (by kernel_rfl) rfl #[.agg #[.slice A0_0 l0_0.length c0_0, .slice A0_1 l0_1.length c0_1]] rfl (by (try simp only [List.map_toArray, List.map_cons, List.map_nil]); first | done | rfl | (simp only [List.length_drop, List.length_take]; rfl)) ?_; (with_reducible refine (spec_l5Minimal.calls k _ _ l0_0 _ _ l0_1 t266 t269 _ ?side1 ?side2 ?side3 ?side4 A2.out).mono ?_); (case side1 => repeat (first | exact (Kd.C_below HR0_0.out HB.out) | (with_reducible refine Kd.C_alloc ?_ _) | (with_reducible refine Kd.C_drewN ?_ _) | (with_reducible refine Kd.C_drew ?_))); (case side2 => exact HC0_0.out); (case side3 => repeat (first | exact (Kd.C_below HR0_1.out HB.out) | (with_reducible refine Kd.C_alloc ?_ _) | (with_reducible refine Kd.C_drewN ?_ _) | (with_reducible refine Kd.C_drew ?_))); (case side4 => exact HC0_1.out); rintro e w23 ⟨v267, v270, rfl, ho0, ho1, hb⟩; refine ⟨_, rfl, ?_⟩; have n0_ := Aside0.mk (Kd.R_lower ho0 (below_size (by repeat (first | (with_reducible first | exact HB.out | apply below_alloc | apply pw_below_drewN | apply below_drew1 | refine below_set ?_ GE264.out | refine below_set ?_ GE265.out) | exact HB.out)))); have n1_ := Aside0.mk (Kd.S_lower ho1 (below_size (by repeat (first | (with_reducible first | exact HB.out | apply below_alloc | apply pw_below_drewN | apply below_drew1 | refine below_set ?_ GE264.out | refine below_set ?_ GE265.out) | exact HB.out)))); have n2_ := Aside0.mk (blk_below (g := gb264) (o := .cells #[.slice A0_0 l0_0.length c0_0, .slice A0_1 l0_1.length c0_1] 27 (0, 0)) (by (with_reducible repeat (first | refine blk_drewN ?_ _ | refine blk_drew ?_ | refine blk_alloc ?_ _)); exact BK264.out) hb); have n3_ := Aside0.mk (blk_below (g := gb265) (o := .cells #[.slice none 0 0, .slice none 0 0] 27 (0, 0)) (by (with_reducible repeat (first | refine blk_drewN ?_ _ | refine blk_drew ?_ | refine blk_alloc ?_ _)); exact BK265.out) hb); have n4_ := Aside0.mk (below_step (by repeat (first | (with_reducible first | exact HB.out | apply below_alloc | apply pw_below_drewN | apply below_drew1 | refine below_set ?_ GE264.out | refine below_set ?_ GE265.out) | exact HB.out)) hb); clear BK264; clear BK265; clear HB; have HO268 := n0_; have HO271 := n1_; have BK264 := n2_; have BK265 := n3_; have HB := n4_; clear n0_ n1_ n2_ n3_ n4_; (try clear hb); (try clear hb2); (try clear hk); (try clear hi); (try clear ho0); (try clear ho1)) | ((with_reducible refine gate_dst (N := 4) rfl ?_); refine box_event ?hg (N := 4) ?hd (cs := #[.slice none 0 0, .slice none 0 0]) (t := 27) ?hr ?_; (case hd => rfl); (case hg => rfl); (case hr => first | (go_simp; done) | (go_simp; rfl)); intro gb272 hg w24 hbox hb; have n0_ := Aside0.mk (Kd.R_below (by (with_reducible repeat (first | apply Kd.R_alloc | apply Kd.R_drewN | apply Kd.R_drew)); exact HO268.out) hb); have n1_ := Aside0.mk (Kd.S_below (by (with_reducible repeat (first | apply Kd.S_alloc | apply Kd.S_drewN | apply Kd.S_drew)); exact HO271.out) hb); have n2_ := Aside0.mk (blk_below (g := gb264) (o := .cells #[.slice A0_0 l0_0.length c0_0, .slice A0_1 l0_1.length c0_1] 27 (0, 0)) (by (with_reducible repeat (first | refine blk_drewN ?_ _ | refine blk_drew ?_ | refine blk_alloc ?_ _)); exact BK264.out) hb); have n3_ := Aside0.mk (blk_below (g := gb265) (o := .cells #[.slice none 0 0, .slice none 0 0] 27 (0, 0)) (by (with_reducible repeat (first | refine blk_drewN ?_ _ | refine blk_drew ?_ | refine blk_alloc ?_ _)); exact BK265.out) hb); have n4_ := Aside0.mk (below_step (by repeat (first | (with_reducible first | exact HB.out | apply below_alloc | apply pw_below_drewN | apply below_drew1 | refine below_set ?_ GE264.out | refine below_set ?_ GE265.out) | exact HB.out)) hb); have n5_ := Aside0.mk (hbox); have n6_ := Aside0.mk ((by rw [hg]; exact (below_size (by repeat (first | (with_reducible first | exact HB.out | apply below_alloc | apply pw_below_drewN | apply below_drew1 | refine below_set ?_ GE264.out | refine below_set ?_ GE265.out) | exact HB.out))) : w.heap.size ≤ gb272)); have n7_ := Aside0.mk ((by rw [hg]; exact (below_size (by repeat (first | (with_reducible first | exact HB.out | apply below_alloc | apply pw_below_drewN | apply below_drew1 | refine below_set ?_ GE264.out | refine below_set ?_ GE265.out) | exact HB.out))) : w.heap.size ≤ gb272)); have n8_ := Aside0.mk ((by rw [hg]; exact Nat.ne_of_lt (blk_lt (g := gb264) (o := .cells #[.slice A0_0 l0_0.length c0_0, .slice A0_1 l0_1.length c0_1] 27 (0, 0)) (by (with_reducible repeat (first | refine blk_drewN ?_ _ | refine blk_drew ?_ | refine blk_alloc ?_ _)); exact BK264.out)) : gb264 ≠ gb272)); have n9_ := Aside0.mk ((by rw [hg]; exact Nat.ne_of_gt (blk_lt (g := gb264) (o := .cells #[.slice A0_0 l0_0.length c0_0, .slice A0_1 l0_1.length c0_1] 27 (0, 0)) (by (with_reducible repeat (first | refine blk_drewN ?_ _ | refine blk_drew ?_ | refine blk_alloc ?_ _)); exact BK264.out)) : gb272 ≠ gb264)); have n10_ := Aside0.mk ((by rw [hg]; exact Nat.ne_of_lt (blk_lt (g := gb265) (o := .cells #[.slice none 0 0, .slice none 0 0] 27 (0, 0)) (by (with_reducible repeat (first | refine blk_drewN ?_ _ | refine blk_drew ?_ | refine blk_alloc ?_ _)); exact BK265.out)) : gb265 ≠ gb272)); have n11_ := Aside0.mk ((by rw [hg]; exact Nat.ne_of_gt (blk_lt (g := gb265) (o := .cells #[.slice none 0 0, .slice none 0 0] 27 (0, 0)) (by (with_reducible repeat (first | refine blk_drewN ?_ _ | refine blk_drew ?_ | refine blk_alloc ?_ _)); exact BK265.out)) : gb272 ≠ gb265)); clear HO268; clear HO271; clear BK264; clear BK265; clear HB; have HO268 := n0_; have HO271 := n1_; have BK264 := n2_; have BK265 := n3_; have HB := n4_; have BK272 := n5_; have GW272 := n6_; have GE272 := n7_; have NB264_272 := n8_; have NB272_264 := n9_; have NB265_272 := n10_; have NB272_265 := n11_; clear n0_ n1_ n2_ n3_ n4_ n5_ n6_ n7_ n8_ n9_ n10_ n11_; clear hb hbox hg; obtain ⟨Ao25, co25, eo25⟩ := Kd.R_slice HO268.out; subst eo25; have hnb26 := NB272_264.out; have hnc26 := NB264_272.out; have hnb27 := NB272_265.out; have hnc27 := NB265_272.out; have hcz28_0 : w24.cell? ⟨gb272, 0, none⟩ = some (.slice none 0 0) := (blk_cell BK272.out 0).trans rfl; have hcz28_1 : w24.cell? ⟨gb272, 1, none⟩ = some (.slice none 0 0) := (blk_cell BK272.out 1).trans rfl; have hfz28_0 := blk_frozen BK272.out 0; have hfz28_1 := blk_frozen BK272.out 1; obtain ⟨Ao29, co29, eo29⟩ := Kd.S_slice HO271.out; subst eo29) | ((with_reducible refine gate_callee (f := 35) rfl ?_); refine goesL_ (some 8) rfl rfl Try.func35 (by kernel_rfl) rfl #[.agg #[.slice Ao25 t266.length co25, .slice Ao29 t269.length co29]] rfl (by (try simp only [List.map_toArray, List.map_cons, List.map_nil]); first | done | rfl | (simp only [List.length_drop, List.length_take]; rfl)) ?_; (with_reducible refine (spec_IsValidDfa.calls k _ _ t266 _ _ t269 false _ ?side1 ?side2 ?side3 ?side4 A3.out).mono ?_); (case side1 => refine (Kd.R_reads' (e := 4) (base := w.heap.size) (ok := fun k_ => True) (n := t266.length) (c := co25) ?_).2.2; exact (by (with_reducible repeat (first | apply Kd.R_alloc | apply Kd.R_drewN | apply Kd.R_drew)); exact (Kd.R_mono (Kd.R_far (p := ⟨gb272, 1, none⟩) (Kd.R_far (p := ⟨gb272, 0, none⟩) (Kd.R_types HO268.out BK272.out (by decide)) (fun _ hk => hk.2) (.slice Ao25 t266.length co25)) (fun _ hk => hk.2) (.slice Ao29 t269.length co29)) (fun _ h_ => h_.1)))); (case side2 => exact (Kd.R_reads' HO268.out).2.1); (case side3 => refine (Kd.S_reads' (e := 67) (base := w.heap.size) (ok := fun k_ => True) (n := t269.length) (c := co29) ?_).2.2; exact (by (with_reducible repeat (first | apply Kd.S_alloc | apply Kd.S_drewN | apply Kd.S_drew)); exact (Kd.S_mono (Kd.S_far (p := ⟨gb272, 1, none⟩) (Kd.S_far (p := ⟨gb272, 0, none⟩) (Kd.S_types HO271.out BK272.out (by decide)) (fun _ hk => hk.2) (.slice Ao25 t266.length co25)) (fun _ hk => hk.2) (.slice Ao29 t269.length co29)) (fun _ h_ => h_.1)))); (case side4 => exact (Kd.S_reads' HO271.out).2.1); rintro e w30 ⟨rfl, hb⟩; refine ⟨_, rfl, ?_⟩; have n0_ := Aside0.mk (Kd.R_below (by (with_reducible repeat (first | apply Kd.R_alloc | apply Kd.R_drewN | apply Kd.R_drew)); exact (Kd.R_mono (Kd.R_far (p := ⟨gb272, 1, none⟩) (Kd.R_far (p := ⟨gb272, 0, none⟩) (Kd.R_types HO268.out BK272.out (by decide)) (fun _ hk => hk.2) (.slice Ao25 t266.length co25)) (fun _ hk => hk.2) (.slice Ao29 t269.length co29)) (fun _ h_ => h_.1))) hb); have n1_ := Aside0.mk (Kd.S_below (by (with_reducible repeat (first | apply Kd.S_alloc | apply Kd.S_drewN | apply Kd.S_drew)); exact (Kd.S_mono (Kd.S_far (p := ⟨gb272, 1, none⟩) (Kd.S_far (p := ⟨gb272, 0, none⟩) (Kd.S_types HO271.out BK272.out (by decide)) (fun _ hk => hk.2) (.slice Ao25 t266.length co25)) (fun _ hk => hk.2) (.slice Ao29 t269.length co29)) (fun _ h_ => h_.1))) hb); have n2_ := Aside0.mk (blk_below (g := gb264) (o := .cells #[.slice A0_0 l0_0.length c0_0, .slice A0_1 l0_1.length c0_1] 27 (0, 0)) (by (with_reducible repeat (first | refine blk_drewN ?_ _ | refine blk_drew ?_ | refine blk_alloc ?_ _)); refine blk_far ?_ NB264_272.out _; (with_reducible repeat (first | refine blk_drewN ?_ _ | refine blk_drew ?_ | refine blk_alloc ?_ _)); refine blk_far ?_ NB264_272.out _; (with_reducible repeat (first | refine blk_drewN ?_ _ | refine blk_drew ?_ | refine blk_alloc ?_ _)); exact BK264.out) hb); have n3_ := Aside0.mk (blk_below (g := gb265) (o := .cells #[.slice none 0 0, .slice none 0 0] 27 (0, 0)) (by (with_reducible repeat (first | refine blk_drewN ?_ _ | refine blk_drew ?_ | refine blk_alloc ?_ _)); refine blk_far ?_ NB265_272.out _; (with_reducible repeat (first | refine blk_drewN ?_ _ | refine blk_drew ?_ | refine blk_alloc ?_ _)); refine blk_far ?_ NB265_272.out _; (with_reducible repeat (first | refine blk_drewN ?_ _ | refine blk_drew ?_ | refine blk_alloc ?_ _)); exact BK265.out) hb); have n4_ := Aside0.mk (blk_below (g := gb272) (o := .cells #[.slice Ao25 t266.length co25, .slice Ao29 t269.length co29] 27 (0, 0)) (by (with_reducible repeat (first | refine blk_drewN ?_ _ | refine blk_drew ?_ | refine blk_alloc ?_ _)); refine blk_put (cs := #[.slice Ao25 t266.length co25, .slice none 0 0]) ?_ 1 _ rfl; (with_reducible repeat (first | refine blk_drewN ?_ _ | refine blk_drew ?_ | refine blk_alloc ?_ _)); refine blk_put (cs := #[.slice none 0 0, .slice none 0 0]) ?_ 0 _ rfl; (with_reducible repeat (first | refine blk_drewN ?_ _ | refine blk_drew ?_ | refine blk_alloc ?_ _)); exact BK272.out) hb); have n5_ := Aside0.mk (below_step (by repeat (first | (with_reducible first | exact HB.out | apply below_alloc | apply pw_below_drewN | apply below_drew1 | refine below_set ?_ GE264.out | refine below_set ?_ GE265.out | refine below_set ?_ GE272.out) | exact HB.out)) hb); clear HO268; clear HO271; clear BK264; clear BK265; clear BK272; clear HB; have HO268 := n0_; have HO271 := n1_; have BK264 := n2_; have BK265 := n3_; have BK272 := n4_; have HB := n5_; clear n0_ n1_ n2_ n3_ n4_ n5_; (try clear hb); (try clear hb2); (try clear hk); (try clear hi); have hcz31_0 : w30.cell? ⟨gb265, 0, none⟩ = some (.slice none 0 0) := (blk_cell BK265.out 0).trans rfl; have hcz31_1 : w30.cell? ⟨gb265, 1, none⟩ = some (.slice none 0 0) := (blk_cell BK265.out 1).trans rfl; have hfz31_0 := blk_frozen BK265.out 0; have hfz31_1 := blk_frozen BK265.out 1))
  refine bodyPost_ret (results_ct rfl _ _ gb265 27 #[.slice none 0 0, .slice none 0 0] (0, 0) _ rfl (by (with_reducible repeat (first | refine blk_drewN ?_ _ | refine blk_drew ?_ | refine blk_alloc ?_ _)); refine blk_put (cs := #[.slice none 0 0, .slice none 0 0]) ?_ 1 _ rfl; (with_reducible repeat (first | refine blk_drewN ?_ _ | refine blk_drew ?_ | refine blk_alloc ?_ _)); refine blk_put (cs := #[.slice none 0 0, .slice none 0 0]) ?_ 0 _ rfl; (with_reducible repeat (first | refine blk_drewN ?_ _ | refine blk_drew ?_ | refine blk_alloc ?_ _)); exact BK265.out) Try.underlying27 rfl (by kernel_rfl)) rfl ?_
  exact ⟨_, _, by first | rfl | (simp [errW_none, errW_some] <;> rfl) | (simp [*, errW_none, errW_some] <;> rfl), by first | exact Kd.R_nil _ _ _ _ _ | exact Kd.N_nil _ _ _ _ _ | exact Kd.V_nil _ _ _ _ _ | exact Kd.Q_nil _ _ _ _ _ | exact Kd.S_nil _ _ _ _ _, by first | exact Kd.S_nil _ _ _ _ _ | exact Kd.N_nil _ _ _ _ _ | exact Kd.V_nil _ _ _ _ _ | exact Kd.Q_nil _ _ _ _ _ | exact Kd.R_nil _ _ _ _ _, by repeat (first | (with_reducible first | exact HB.out | apply below_alloc | apply pw_below_drewN | apply below_drew1 | refine below_set ?_ GE264.out | refine below_set ?_ GE265.out | refine below_set ?_ GE272.out) | exact HB.out)⟩
end Go.Proofs.Ytogamkblkoobkaa.P
end
section
namespace Go.Proofs.Ytogamkblkoobkaa.Can
open Go.RowKit Go.Proofs.Ytogamkblkoobkaa Go.Proofs.Ytogamkblkoobkaa.P Go.Proofs.Ytogamkblkoobkaa.Wk Go.Proofs.Ytogamkblkoobkaa.Lg Go.Proofs.Ytogamkblkoobkaa.Pl Go.Proofs.Ytogamkblkoobkaa.Mp Go.Proofs.Ytogamkblkoobkaa.Bf Go.Proofs.Ytogamkblkoobkaa.Mn Go.Proofs.YtogamkblkoobkaaW.PrintWords Go.Proofs.YtogamkblkoobkaaW.PrintLast Go.Proofs.YtogamkblkoobkaaW.PrintMore
set_option linter.unusedVariables false
set_option linter.unusedSimpArgs false
set_option linter.unusedSectionVars false
def nxZ (n m : List (List Int)) (nb : Nat) (z : Int) (j : Nat) : Int := nxD n (z / nb) j * nb + nxD m (z % nb) j
def acZ (kind : Int) (a b : List Bool) (z : Int) : Bool := bothB kind (rdOf false a (z / b.length)) (rdOf false b (z % b.length))
def domZ (N : Nat) (z : Int) : Prop := 0 ≤ z ∧ z < (N : Int)
section
variable {a b : List Bool} {n m : List (List Int)} {kind : Int}
theorem z_parts {na nb : Nat} (hb : 1 ≤ nb) {z : Int} (h : domZ (na * nb) z) : (0 ≤ z / (nb : Int) ∧ z / (nb : Int) < (na : Int)) ∧ 0 ≤ z % (nb : Int) ∧ z % (nb : Int) < (nb : Int) := by
  obtain ⟨h0, h1⟩ := h
  refine ⟨⟨Int.ediv_nonneg h0 (by omega), ?_⟩, Int.emod_nonneg _ (by omega), Int.emod_lt_of_pos _ (by omega)⟩
  apply Int.ediv_lt_of_lt_mul (by omega)
  rw [Int.natCast_mul] at h1
  exact h1
theorem z_make {na nb : Nat} {p q : Int} (hp : 0 ≤ p ∧ p < (na : Int)) (hq : 0 ≤ q ∧ q < (nb : Int)) : domZ (na * nb) (p * nb + q) ∧ (p * nb + q) / (nb : Int) = p ∧ (p * nb + q) % (nb : Int) = q := by
  obtain ⟨i, rfl⟩ : ∃ i : Nat, p = (i : Int) := ⟨p.toNat, by omega⟩
  obtain ⟨j, rfl⟩ : ∃ j : Nat, q = (j : Int) := ⟨q.toNat, by omega⟩
  have hi : i + 1 ≤ na := by omega
  have hle : (i + 1) * nb ≤ na * nb := Nat.mul_le_mul_right nb hi
  rw [Nat.succ_mul] at hle
  have e : (i : Int) * (nb : Int) + (j : Int) = ((i * nb + j : Nat) : Int) := by rw [Int.natCast_add, Int.natCast_mul]
  rw [e]
  refine ⟨⟨by omega, by omega⟩, ?_, ?_⟩
  · rw [← Int.natCast_ediv]
    congr 1
    rw [Nat.mul_comm, Nat.mul_add_div (by omega), Nat.div_eq_of_lt (by omega), Nat.add_zero]
  · rw [← Int.natCast_emod]
    congr 1
    rw [Nat.mul_comm, Nat.mul_add_mod, Nat.mod_eq_of_lt (by omega)]
theorem z_next (hv : validD a n = true) (hw : validD b m = true) {z : Int} (h : domZ (a.length * b.length) z) (j : Nat) (hj : j < 3) : (0 ≤ nxD n (z / b.length) j ∧ nxD n (z / b.length) j < (a.length : Int)) ∧ (0 ≤ nxD m (z % b.length) j ∧ nxD m (z % b.length) j < (b.length : Int)) ∧ domZ (a.length * b.length) (nxZ n m b.length z j) ∧ nxZ n m b.length z j / (b.length : Int) = nxD n (z / b.length) j ∧ nxZ n m b.length z j % (b.length : Int) = nxD m (z % b.length) j := by
  obtain ⟨g1, _⟩ := validD_facts hw
  have hp := z_parts g1 h
  have h1 := pair_dom hv hw (z / (b.length : Int), z % (b.length : Int)) j hp hj
  exact ⟨h1.1, h1.2, z_make h1.1 h1.2⟩
theorem z_sc (hv : validD a n = true) (hw : validD b m = true) : ∀ z, domZ (a.length * b.length) z → ∀ y ∈ sc (nxZ n m b.length) z, domZ (a.length * b.length) y := fun z hz y hy => by
  simp only [sc, tl, List.mem_cons, List.not_mem_nil, or_false] at hy
  rcases hy with rfl | rfl | rfl
  · exact (z_next hv hw hz 0 (by omega)).2.2.1
  · exact (z_next hv hw hz 1 (by omega)).2.2.1
  · exact (z_next hv hw hz 2 (by omega)).2.2.1
theorem z_zero (hv : validD a n = true) (hw : validD b m = true) : domZ (a.length * b.length) 0 := by
  obtain ⟨h1, _⟩ := validD_facts hv
  obtain ⟨g1, _⟩ := validD_facts hw
  have := Nat.mul_pos h1 g1
  exact ⟨Int.le_refl _, by omega⟩
theorem z_runs (hv : validD a n = true) (hw : validD b m = true) : ∃ R, Runs (sc (nxZ n m b.length)) [0] 0 R ∧ R.length ≤ 1600 := by
  have h0 : ∀ x ∈ [(0 : Int)], domZ (a.length * b.length) x := fun x hx => by rw [List.mem_singleton] at hx; subst hx; exact z_zero hv hw
  obtain ⟨h1, h2, _⟩ := validD_facts hv
  obtain ⟨g1, g2, _⟩ := validD_facts hw
  have hN : a.length * b.length ≤ 40 * 40 := Nat.mul_le_mul h2 g2
  obtain ⟨R, hR⟩ := Runs.ends (succ := sc (nxZ n m b.length)) (N := a.length * b.length) (z_sc hv hw) (fun s hn hs => card_n (a.length * b.length) s hn hs) (a.length * b.length) [0] 0 (by simp) h0 (by simp) (by omega)
  exact ⟨R, hR, Nat.le_trans (card_n (a.length * b.length) R (hR.nodup (by simp)) (hR.all (z_sc hv hw) h0)) (by omega)⟩
theorem z_fit (hv : validD a n = true) (hw : validD b m = true) (hk : kind = 6 ∨ kind = 7) {R : List Int} (hR : Runs (sc (nxZ n m b.length)) [0] 0 R) : fitD (R.map (acZ kind a b)) (R.map (rowX (nxZ n m b.length) R)) = pdR a n b m kind := by
  obtain ⟨g1, _⟩ := validD_facts hw
  obtain ⟨h1, _⟩ := validD_facts hv
  obtain ⟨q, he, hx, hau, hq⟩ := pd_some (kind := kind) hv hw
  have hz : Auto (acZ kind a b) (nxZ n m b.length) (0 : Int) (R.map (acZ kind a b)) (R.map (rowX (nxZ n m b.length) R)) := ⟨R, hR, rfl, rfl⟩
  have e1 := hz.lang (fun z w => bothB kind (run a n w (z / b.length)) (run b m w (z % b.length))) (dom := domZ (a.length * b.length)) (z_zero hv hw) (z_sc hv hw) (fun z _ => rfl) (fun z hz k w => by
    obtain ⟨_, _, _, e1, e2⟩ := z_next hv hw hz k.val k.isLt
    show bothB kind (run a n w (rd (rowOf n (z / b.length)) (k.val : Int))) (run b m w (rd (rowOf m (z % b.length)) (k.val : Int))) = bothB kind (run a n w (nxZ n m b.length z k.val / b.length)) (run b m w (nxZ n m b.length z k.val % b.length))
    rw [e1, e2]
    rfl)
  have e2 := hau.lang (fun x w => bothB kind (run a n w x.1) (run b m w x.2)) (dom := fun _ => True) trivial (fun _ _ _ _ => trivial) (fun x _ => rfl) (fun x _ k w => rfl)
  unfold pdR
  rw [if_pos ⟨⟨hv, hw⟩, hk⟩, hx]
  refine fitD_lang hz.rows.1 hz.rows.2 hau.rows.1 hau.rows.2 ?_
  rw [e1, e2]
  funext w
  show bothB kind (run a n w (0 / (b.length : Int))) (run b m w (0 % (b.length : Int))) = bothB kind (run a n w 0) (run b m w 0)
  rw [Int.zero_ediv, Int.zero_emod]
theorem spec_fit {A : List Bool} {M : List (List Int)} (h1 : 1 ≤ A.length) (h2 : A.length ≤ 1000000) (h3 : Rows3 A.length M) : Ev (fun k => spec_l5Fits.f k A M) (fitD A M) := by
  simp only [spec_l5Fits.f]
  refine Ev.bind (min_same (fits_rows h3) h1 (by omega)) ?_
  have hc := (min_can (fits_rows h3) (st := 0) (by omega)).facts
  have hl := minD_len (fits_rows h3) (st := 0) (by omega)
  unfold fitD
  generalize minD A M 0 = mm at hc hl ⊢
  refine Ev.bind (spec_valid _ _ (by omega) (by omega)) ?_
  by_cases h : mm.1.length ≤ 40
  · have hv := valid_of hc.1 h hc.2.1
    simp only [hv, if_true, if_pos h]
    exact Ev.now _
  · have hv : validD mm.1 mm.2 = false := by
      cases hv : validD mm.1 mm.2 with
      | false => rfl
      | true => exact absurd (validD_facts hv).2.1 h
    simp only [hv, Bool.false_eq_true, if_false, if_neg h]
    exact Ev.now _
end
theorem find_in {L : List Int} {y : Int} (h : y ∈ L) : findOf L y = num L y := by
  unfold findOf
  rw [if_pos h, num_eq h]
end Go.Proofs.Ytogamkblkoobkaa.Can
end
