/- Texts of the proof of FnBoolean, put together. No condition. -/
import Derived.Test.YtogamkblkoobkaaQFnBoolean6
import Derived.Test.YtogamkblkoobkaaQFnBoolean2
import Derived.Shelf.Abstract
import Derived.Lib.Walk
import Derived.Test.YtogamkblkoobkaaQFnBoolean3
import Derived.Test.YtogamkblkoobkaaQFnBoolean4
section
namespace Go.Proofs.Ytogamkblkoobkaa.Can
open Go.RowKit Go.Proofs.Ytogamkblkoobkaa Go.Proofs.Ytogamkblkoobkaa.P Go.Proofs.Ytogamkblkoobkaa.Wk Go.Proofs.Ytogamkblkoobkaa.Lg Go.Proofs.Ytogamkblkoobkaa.Pl Go.Proofs.Ytogamkblkoobkaa.Mp Go.Proofs.Ytogamkblkoobkaa.Bf Go.Proofs.Ytogamkblkoobkaa.Mn Go.Proofs.YtogamkblkoobkaaW.PrintWords Go.Proofs.YtogamkblkoobkaaW.PrintLast Go.Proofs.YtogamkblkoobkaaW.PrintMore
set_option linter.unusedVariables false
set_option linter.unusedSimpArgs false
set_option linter.unusedSectionVars false
section
variable {α : Type} [DecidableEq α] {nx : α → Nat → α} {acc : α → Bool} {most : Nat}
def tl (nx : α → Nat → α) (x : α) : Nat → Nat → List α
  | 0, _ => []
  | d + 1, j => nx x j :: tl nx x d (j + 1)
def sc (nx : α → Nat → α) (x : α) : List α := tl nx x 3 0
def num (L : List α) (y : α) : Int := (idx L y).getD 0
theorem num_eq {L : List α} {y : α} (h : y ∈ L) : num L y = (L.idxOf y : Int) := by
  unfold num idx
  rw [if_pos h]
  rfl
theorem num_pre {L R : List α} {y : α} (h : y ∈ L) (hp : L <+: R) : num R y = num L y := by
  obtain ⟨t, rfl⟩ := hp
  rw [num_eq h, num_eq (List.mem_append_left _ h), List.idxOf_append, if_pos h]
theorem num_last {L : List α} {y : α} (h : y ∉ L) : num (L ++ [y]) y = (L.length : Int) := by
  rw [num_eq (by simp), List.idxOf_append, if_neg h]
  simp
theorem exRow_some {x : α} : ∀ (d j : Nat) (L : List α) (row : List Int) (L' : List α) (row' : List Int), exRow nx most x d j L row = some (L', row') → L' = adds L (tl nx x d j) ∧ row' = row ++ (tl nx x d j).map (num L') ∧ (L.length ≤ most → L'.length ≤ most)
  | 0, j, L, row, L', row', h => by
    rw [exRow] at h
    obtain ⟨rfl, rfl⟩ := Prod.mk.inj (Option.some.inj h)
    exact ⟨rfl, by simp [tl], id⟩
  | d + 1, j, L, row, L', row', h => by
    rw [exRow] at h
    by_cases hm : nx x j ∈ L
    · rw [if_pos hm] at h
      obtain ⟨h1, h2, h3⟩ := exRow_some d (j + 1) L _ L' row' h
      refine ⟨by rw [tl, adds_cons, add_in hm]; exact h1, ?_, h3⟩
      rw [h2, tl, List.map_cons, List.append_assoc, List.singleton_append]
      have : num L' (nx x j) = num L (nx x j) := num_pre hm (by rw [h1]; exact adds_pre _ _)
      rw [this]
      rfl
    · rw [if_neg hm] at h
      by_cases ho : most < L.length + 1
      · rw [if_pos ho] at h
        cases h
      · rw [if_neg ho] at h
        obtain ⟨h1, h2, h3⟩ := exRow_some d (j + 1) _ _ L' row' h
        refine ⟨by rw [tl, adds_cons, add_out hm]; exact h1, ?_, fun _ => h3 (by simp; omega)⟩
        rw [h2, tl, List.map_cons, List.append_assoc, List.singleton_append]
        have : num L' (nx x j) = num (L ++ [nx x j]) (nx x j) := num_pre (by simp) (by rw [h1]; exact adds_pre _ _)
        rw [this, num_last hm]
theorem exRow_none {x : α} : ∀ (d j : Nat) (L : List α) (row : List Int), exRow nx most x d j L row = none → most < (adds L (tl nx x d j)).length
  | 0, j, L, row, h => by rw [exRow] at h; cases h
  | d + 1, j, L, row, h => by
    rw [exRow] at h
    rw [tl, adds_cons]
    by_cases hm : nx x j ∈ L
    · rw [if_pos hm] at h
      rw [add_in hm]
      exact exRow_none d (j + 1) L _ h
    · rw [if_neg hm] at h
      rw [add_out hm]
      by_cases ho : most < L.length + 1
      · have := (adds_pre (tl nx x d (j + 1)) (L ++ [nx x j])).length_le
        simp only [List.length_append, List.length_cons, List.length_nil] at this
        omega
      · rw [if_neg ho] at h
        exact exRow_none d (j + 1) _ _ h
def rowX (nx : α → Nat → α) (R : List α) (x : α) : List Int := (sc nx x).map (num R)
structure ExInv (acc : α → Bool) (nx : α → Nat → α) (p : Ex α) (i : Nat) : Prop where
  a : p.2.1 = (p.1.take i).map acc
  m : p.2.2 = (p.1.take i).map (rowX nx p.1)
  c : ∀ x ∈ p.1.take i, ∀ y ∈ sc nx x, y ∈ p.1
theorem inv_step {p : Ex α} {i : Nat} (h : ExInv acc nx p i) (hi : i < p.1.length) {L' : List α} {row' : List Int} (h1 : L' = adds p.1 (sc nx p.1[i])) (h2 : row' = (sc nx p.1[i]).map (num L')) : ExInv acc nx (L', p.2.1 ++ [acc p.1[i]], p.2.2 ++ [row']) (i + 1) := by
  have hpre : p.1 <+: L' := by rw [h1]; exact adds_pre _ _
  have ht : L'.take (i + 1) = p.1.take i ++ [p.1[i]] := by
    rw [← List.take_succ_eq_append_getElem hi]
    obtain ⟨t, rfl⟩ := hpre
    rw [List.take_append_of_le_length (by omega)]
  refine ⟨?_, ?_, ?_⟩
  · show p.2.1 ++ [acc p.1[i]] = (L'.take (i + 1)).map acc
    rw [ht, List.map_append, ← h.a, List.map_singleton]
  · show p.2.2 ++ [row'] = (L'.take (i + 1)).map (rowX nx L')
    rw [ht, List.map_append, List.map_singleton, h.m, h2]
    congr 1
    refine List.map_congr_left fun x hx => ?_
    unfold rowX
    refine List.map_congr_left fun y hy => ?_
    exact (num_pre (h.c x hx y hy) hpre).symm
  · show ∀ x ∈ L'.take (i + 1), ∀ y ∈ sc nx x, y ∈ L'
    rw [ht]
    intro x hx y hy
    rcases List.mem_append.mp hx with hx | hx
    · exact hpre.subset (h.c x hx y hy)
    · rw [List.mem_singleton] at hx
      subst hx
      rw [h1]
      exact mem_adds.mpr (Or.inr hy)
theorem expl_some : ∀ (d : Nat) (p : Ex α) (i : Nat) (q : Ex α), most + 2 ≤ d + i → p.1.length ≤ most → i ≤ p.1.length → ExInv acc nx p i → expl acc nx most d p i = some q → Runs (sc nx) p.1 i q.1 ∧ q.1.length ≤ most ∧ q.2.1 = q.1.map acc ∧ q.2.2 = q.1.map (rowX nx q.1)
  | 0, p, i, q, hd, hp, hi, _, _ => by omega
  | d + 1, p, i, q, hd, hp, hi, hv, h => by
    rw [expl] at h
    by_cases hlt : i < p.1.length
    · rw [dif_pos hlt] at h
      obtain ⟨⟨L', row'⟩, he, h⟩ := Option.bind_eq_some_iff.mp h
      obtain ⟨h1, h2, h3⟩ := exRow_some 3 0 p.1 [] L' row' he
      obtain ⟨g1, g2⟩ := expl_some d _ (i + 1) q (by omega) (h3 hp) (by
        have : p.1.length ≤ L'.length := by rw [h1]; exact (adds_pre _ _).length_le
        show i + 1 ≤ L'.length
        omega) (inv_step hv hlt h1 (by rw [h2, List.nil_append]; rfl)) h
      refine ⟨.step hlt ?_, g2⟩
      have : L' = adds p.1 (sc nx p.1[i]) := h1
      rw [← this]
      exact g1
    · rw [dif_neg hlt] at h
      have h := Option.some.inj h
      subst h
      have ht : p.1.take i = p.1 := List.take_of_length_le (by omega)
      exact ⟨.stop (by omega), hp, by rw [hv.a, ht], by rw [hv.m, ht]⟩
theorem expl_none : ∀ (d : Nat) (p : Ex α) (i : Nat) (R : List α), expl acc nx most d p i = none → Runs (sc nx) p.1 i R → most < R.length
  | 0, p, i, R, h, _ => by rw [expl] at h; cases h
  | d + 1, p, i, R, h, hR => by
    rw [expl] at h
    by_cases hlt : i < p.1.length
    · rw [dif_pos hlt] at h
      cases hR with
      | stop h' => omega
      | step _ hR =>
        cases he : exRow nx most p.1[i] 3 0 p.1 [] with
        | none =>
          have h1 := exRow_none 3 0 p.1 [] he
          have h2 := hR.pre.length_le
          have : adds p.1 (sc nx p.1[i]) = adds p.1 (tl nx p.1[i] 3 0) := rfl
          rw [this] at h2
          omega
        | some q =>
          rw [he] at h
          obtain ⟨h1, h2, h3⟩ := exRow_some 3 0 p.1 [] q.1 q.2 he
          refine expl_none d _ (i + 1) R h ?_
          have : q.1 = adds p.1 (sc nx p.1[i]) := h1
          show Runs (sc nx) q.1 (i + 1) R
          rw [this]
          exact hR
    · rw [dif_neg hlt] at h
      cases h
def Auto (acc : α → Bool) (nx : α → Nat → α) (x0 : α) (A : List Bool) (M : List (List Int)) : Prop := ∃ R, Runs (sc nx) [x0] 0 R ∧ A = R.map acc ∧ M = R.map (rowX nx R)
theorem expl_auto {x0 : α} {q : Ex α} (h1 : 1 ≤ most) (h : expl acc nx most (most + 2) ([x0], [], []) 0 = some q) : Auto acc nx x0 q.2.1 q.2.2 ∧ q.2.1.length ≤ most := by
  obtain ⟨g1, g2, g3, g4⟩ := expl_some (most + 2) ([x0], [], []) 0 q (by omega) h1 (by simp) ⟨rfl, rfl, fun x hx => by simp at hx⟩ h
  exact ⟨⟨q.1, g1, g3, g4⟩, by rw [g3, List.length_map]; exact g2⟩
theorem Auto.rows {x0 : α} {A : List Bool} {M : List (List Int)} (h : Auto acc nx x0 A M) : 1 ≤ A.length ∧ Rows3 A.length M := by
  obtain ⟨R, hR, rfl, rfl⟩ := h
  have hcl := hR.closed (fun j _ hj => by omega)
  have hp := hR.pre.length_le
  refine ⟨by rw [List.length_map]; exact hp, by simp, fun r hr => ?_⟩
  obtain ⟨x, hx, rfl⟩ := List.mem_map.mp hr
  refine ⟨by simp [rowX, sc, tl], fun q hq => ?_⟩
  obtain ⟨y, hy, rfl⟩ := List.mem_map.mp hq
  have hm := hcl x hx y hy
  have := List.idxOf_lt_length_of_mem hm
  rw [num_eq hm, List.length_map]
  omega
theorem Auto.lang {x0 : α} {A : List Bool} {M : List (List Int)} (h : Auto acc nx x0 A M) (lam : α → Lan) {dom : α → Prop} (hd0 : dom x0) (hdn : ∀ x, dom x → ∀ y ∈ sc nx x, dom y) (he : ∀ x, dom x → lam x [] = acc x) (hs : ∀ x, dom x → ∀ (k : Fin 3) w, lam x (k :: w) = lam (nx x k.val) w) : lang A M 0 = lam x0 := by
  obtain ⟨R, hR, rfl, rfl⟩ := h
  have hcl := hR.closed (fun j _ hj => by omega)
  have hall := hR.all (p := dom) hdn (fun x hx => by rw [List.mem_singleton] at hx; subst hx; exact hd0)
  have H : ∀ (w : List (Fin 3)) (i : Nat) (hi : i < R.length), run (R.map acc) (R.map (rowX nx R)) w (i : Int) = lam R[i] w := by
    intro w
    induction w with
    | nil =>
      intro i hi
      show rdOf false (R.map acc) (i : Int) = _
      rw [rdOf_get false _ i (by simpa using hi), List.getElem_map, he _ (hall _ (List.getElem_mem hi))]
    | cons k w ih =>
      intro i hi
      show run _ _ w (rd (rowOf (R.map (rowX nx R)) (i : Int)) (k.val : Int)) = _
      have hrow : rowOf (R.map (rowX nx R)) (i : Int) = rowX nx R R[i] := by
        unfold rowOf
        rw [Int.toNat_natCast, List.getD_eq_getElem?_getD, List.getElem?_eq_getElem (by simpa using hi), Option.getD_some, List.getElem_map]
      have hk : rd (rowX nx R R[i]) (k.val : Int) = num R (nx R[i] k.val) := by
        match k with
        | 0 => rfl
        | 1 => rfl
        | 2 => rfl
      have hm : nx R[i] k.val ∈ R := by
        refine hcl _ (List.getElem_mem hi) _ ?_
        match k with
        | 0 => simp [sc, tl]
        | 1 => simp [sc, tl]
        | 2 => simp [sc, tl]
      have hlt := List.idxOf_lt_length_of_mem hm
      rw [hrow, hk, num_eq hm, ih _ hlt, List.getElem_idxOf hlt, hs _ (hall _ (List.getElem_mem hi))]
  obtain ⟨t, rfl⟩ := hR.pre
  exact funext fun w => H w 0 (by simp)
end
def fitD (A : List Bool) (M : List (List Int)) : List Bool × List (List Int) × Bool := if (minD A M 0).1.length ≤ 40 then ((minD A M 0).1, (minD A M 0).2, true) else ([], [], false)
theorem fitD_lang {A B : List Bool} {M K : List (List Int)} (hA : 1 ≤ A.length) (hM : Rows3 A.length M) (hB : 1 ≤ B.length) (hK : Rows3 B.length K) (h : lang A M 0 = lang B K 0) : fitD A M = fitD B K := by
  have e : minD A M 0 = minD B K 0 := by
    have c := min_can (fits_rows hM) (st := 0) (by omega)
    rw [h] at c
    exact c.det (min_can (fits_rows hK) (st := 0) (by omega))
  unfold fitD
  rw [e]
theorem fitD_len {A : List Bool} {M : List (List Int)} (hA : 1 ≤ A.length) (hM : Rows3 A.length M) : (fitD A M).1.length ≤ 40 ∧ (fitD A M).2.1.length ≤ 40 ∧ ∀ r ∈ (fitD A M).2.1, r.length = 3 := by
  unfold fitD
  obtain ⟨l1, l2, l3⟩ := minD_len (fits_rows hM) (st := 0) (by omega)
  by_cases h : (minD A M 0).1.length ≤ 40
  · rw [if_pos h]
    exact ⟨h, by show (minD A M 0).2.length ≤ 40; omega, l3⟩
  · rw [if_neg h]
    simp
end Go.Proofs.Ytogamkblkoobkaa.Can
end
section
namespace Go.Proofs.Ytogamkblkoobkaa.P
open Go.RowKit Go.Proofs.YtogamkblkoobkaaW.PrintWords Go.Proofs.YtogamkblkoobkaaW.PrintLast Go.Proofs.YtogamkblkoobkaaW.PrintMore
attribute [local go_sem] max2_int min2_int max_two min_two max_three min_three max_four min_four
set_option linter.unusedVariables false
set_option linter.unusedSimpArgs false
def impl_fitting.f (l0_0 : List Bool) (l0_1 : List (List Int)) : Option (List Bool × (List (List Int)) × Bool) := (impl_minimized.f l0_0 l0_1 0).bind fun bt276 => (if (bt276.1.length : Int) > 40 then (some (([] : List Bool), ([] : List (List Int)), false)) else (some (bt276.1, bt276.2, true)))
set_option maxHeartbeats 8000000 in
set_option maxRecDepth 100000 in
theorem impl_fitting.calls (A0_0 : Option Addr) (c0_0 : Nat) (l0_0 : List Bool) (A0_1 : Option Addr) (c0_1 : Nat) (l0_1 : List (List Int)) (r1 : List Bool) (r2 : List (List Int)) (r3 : Bool) (w : World) (hr0_0 : Kd.C Kd.bool w A0_0 l0_0.length l0_0) (hc0_0 : l0_0.length ≤ c0_0) (hr0_1 : Kd.C (Kd.slice 3 (Kd.int .i64)) w A0_1 l0_1.length l0_1) (hc0_1 : l0_1.length ≤ c0_1) (h : impl_fitting.f l0_0 l0_1 = some (r1, r2, r3)) :
  Calls Try.prog 68 #[.agg #[.slice A0_0 l0_0.length c0_0, .slice A0_1 l0_1.length c0_1]] w fun e w' => ∃ v0_ v1_ : Value, e = .returned (.tuple #[.agg #[v0_, v1_], .bool r3]) ∧ Kd.R Kd.bool 4 w' w.heap.size (fun _ => True) v0_ r1 ∧ Kd.S (Kd.slice 3 (Kd.int .i64)) 67 w' w.heap.size (fun _ => True) v1_ r2 ∧ Below w.heap.size w w' := by
 have hu27 := Try.underlying27
 have aA := am_ hr0_0
 have aB := am_ hc0_0
 clear hr0_0 hc0_0
 have aC := am_ hr0_1
 have aD := am_ hc0_1
 clear hr0_1 hc0_1
 have HB := am_ (Below.refl w.heap.size w)
 have H : ((impl_minimized.f l0_0 l0_1 0).bind fun bt276 => (if (bt276.1.length : Int) > 40 then (some (([] : List Bool), ([] : List (List Int)), false)) else (some (bt276.1, bt276.2, true)))) = some (r1, r2, r3) := h
 clear h
 replace H := Option.bind_eq_some_iff.mp H
 obtain ⟨⟨ak, au⟩, A20, H⟩ := H
 have A2 := am_ A20
 clear A20
 by_cases c3 : (ak.length : Int) > 40
 ·rw [if_pos c3] at H
  have c3b0 : decide (40 < (ak.length : Int)) = true := decide_eq_true c3
  have c3b1 : decide (40 < ak.length) = true := decide_eq_true (by omega)
  clear c3
  simp only [Option.some.injEq, Prod.mk.injEq] at H
  obtain ⟨rfl, rfl, rfl⟩ := H
  go_enter Try.func68, Try.ntmps68
  go_wp2_with (first | ((with_reducible refine gate_dst (N := 1) rfl ?_); refine box_event ?hg (N := 1) ?hd (cs := #[.slice A0_0 l0_0.length c0_0, .slice A0_1 l0_1.length c0_1]) (t := 27) ?hr ?_; (case hd => rfl); (case hg => rfl); (case hr => first | (go_simp; done) | (go_simp; rfl)); intro ai hg w4 hbox hb; replace aa := am_ (hbox); replace aE := am_ ((by rw [hg]; exact (below_size (b0_ HB.out)) : w.heap.size ≤ ai)); replace ad := am_ ((by rw [hg]; exact (below_size (b0_ HB.out)) : w.heap.size ≤ ai)); replace HB := am_ (below_step (b0_ HB.out) hb); clear hb hbox hg) | ((with_reducible refine gate_dst (N := 2) rfl ?_); refine box_event ?hg (N := 2) ?hd (cs := #[.slice none 0 0, .slice none 0 0]) (t := 27) ?hr ?_; (case hd => rfl); (case hg => rfl); (case hr => first | (go_simp; done) | (go_simp; rfl)); intro ae hg w5 hbox hb; have n0_ := am_ (blk_below (rb_ aa.out) hb); have n1_ := am_ (below_step (b1_ HB.out ad.out) hb); have n2_ := am_ (hbox); have n3_ := am_ ((by rw [hg]; exact (below_size (b1_ HB.out ad.out)) : w.heap.size ≤ ae)); have n4_ := am_ ((by rw [hg]; exact (below_size (b1_ HB.out ad.out)) : w.heap.size ≤ ae)); have n5_ := am_ ((by rw [hg]; exact Nat.ne_of_lt (blk_lt (rb_ aa.out)) : ai ≠ ae)); have n6_ := am_ ((by rw [hg]; exact Nat.ne_of_gt (blk_lt (rb_ aa.out)) : ae ≠ ai)); clear aa; clear HB; have aa := n0_; have HB := n1_; have ab := n2_; have aF := n3_; have ag := n4_; have an := n5_; have ao := n6_; clear n0_ n1_ n2_ n3_ n4_ n5_ n6_; clear hb hbox hg; have bv := an.out; have bw := ao.out; have bh := ck_ (v := (.slice A0_0 l0_0.length c0_0)) aa 0 rfl; have bi := ck_ (v := (.slice A0_1 l0_1.length c0_1)) aa 1 rfl; have bj := blk_frozen aa.out 0; have bk := blk_frozen aa.out 1) | ((with_reducible refine gate_callee (f := 56) rfl ?_); refine gL_ (some 6) Try.func56 #[.agg #[.slice A0_0 l0_0.length c0_0, .slice A0_1 l0_1.length c0_1], .int .i64 0] ?_; (with_reducible refine (impl_minimized.calls _ _ l0_0 _ _ l0_1 0 ak au _ ?side1 ?side2 ?side3 ?side4 A2.out).mono ?_); (case side1 => exact rc_ (Kd.C_below aA.out HB.out)); (case side2 => exact aB.out); (case side3 => exact rc_ (Kd.C_below aC.out HB.out)); (case side4 => exact aD.out); rintro e w8 ⟨aH, aI, rfl, ho0, ho1, hb⟩; refine ⟨_, rfl, ?_⟩; have n0_ := am_ (Kd.R_lower ho0 (below_size (b2_ HB.out ad.out ag.out))); have n1_ := am_ (Kd.S_lower ho1 (below_size (b2_ HB.out ad.out ag.out))); have n2_ := am_ (blk_below (rb_ aa.out) hb); have n3_ := am_ (blk_below (rb_ ab.out) hb); have n4_ := am_ (below_step (b2_ HB.out ad.out ag.out) hb); clear aa; clear ab; clear HB; have al := n0_; have am := n1_; have aa := n2_; have ab := n3_; have HB := n4_; clear n0_ n1_ n2_ n3_ n4_; (try clear hb); (try clear hb2); (try clear hk); (try clear hi); (try clear ho0); (try clear ho1)) | ((with_reducible refine gate_dst (N := 4) rfl ?_); refine box_event ?hg (N := 4) ?hd (cs := #[.slice none 0 0, .slice none 0 0]) (t := 27) ?hr ?_; (case hd => rfl); (case hg => rfl); (case hr => first | (go_simp; done) | (go_simp; rfl)); intro af hg w9 hbox hb; have n0_ := am_ (Kd.R_below (rr_ al.out) hb); have n1_ := am_ (Kd.S_below (rs_ am.out) hb); have n2_ := am_ (blk_below (rb_ aa.out) hb); have n3_ := am_ (blk_below (rb_ ab.out) hb); have n4_ := am_ (below_step (b2_ HB.out ad.out ag.out) hb); have n5_ := am_ (hbox); have n6_ := am_ ((by rw [hg]; exact (below_size (b2_ HB.out ad.out ag.out)) : w.heap.size ≤ af)); have n7_ := am_ ((by rw [hg]; exact (below_size (b2_ HB.out ad.out ag.out)) : w.heap.size ≤ af)); have n8_ := am_ ((by rw [hg]; exact Nat.ne_of_lt (blk_lt (rb_ aa.out)) : ai ≠ af)); have n9_ := am_ ((by rw [hg]; exact Nat.ne_of_gt (blk_lt (rb_ aa.out)) : af ≠ ai)); have n10_ := am_ ((by rw [hg]; exact Nat.ne_of_lt (blk_lt (rb_ ab.out)) : ae ≠ af)); have n11_ := am_ ((by rw [hg]; exact Nat.ne_of_gt (blk_lt (rb_ ab.out)) : af ≠ ae)); clear al; clear am; clear aa; clear ab; clear HB; have al := n0_; have am := n1_; have aa := n2_; have ab := n3_; have HB := n4_; have aj := n5_; have aG := n6_; have az := n7_; have ap := n8_; have aq := n9_; have ah := n10_; have ar := n11_; clear n0_ n1_ n2_ n3_ n4_ n5_ n6_ n7_ n8_ n9_ n10_ n11_; clear hb hbox hg; obtain ⟨bx, bz, aJ⟩ := Kd.R_slice al.out; subst aJ; have bl := aq.out; have bm := ap.out; have bn := ar.out; have bo := ah.out; have aN := ck_ (v := (.slice none 0 0)) aj 0 rfl; have aO := ck_ (v := (.slice none 0 0)) aj 1 rfl; have aP := blk_frozen aj.out 0; have aQ := blk_frozen aj.out 1; obtain ⟨bA, bB, aK⟩ := Kd.S_slice am.out; subst aK; have aR := ck_ (v := (.slice none 0 0)) ab 0 rfl; have aS := ck_ (v := (.slice none 0 0)) ab 1 rfl; have aT := blk_frozen ab.out 0; have aU := blk_frozen ab.out 1))
  refine bodyPost_ret (results_ct rfl _ _ ae 27 #[.slice none 0 0, .slice none 0 0] (0, 0) _ rfl (by refine rb_ ?_; refine blk_put (cs := #[.slice none 0 0, .slice none 0 0]) ?_ 1 _ rfl; refine rb_ ?_; refine blk_put (cs := #[.slice none 0 0, .slice none 0 0]) ?_ 0 _ rfl; refine rb_ ?_; refine blk_far ?_ ah.out _; refine rb_ ?_; refine blk_far ?_ ah.out _; refine rb_ ?_; exact ab.out) Try.underlying27 rfl (by kernel_rfl)) rfl ?_
  exact ⟨_, _, by first | rfl | (simp [errW_none, errW_some] <;> rfl) | (simp [*, errW_none, errW_some] <;> rfl), by first | exact Kd.R_nil _ _ _ _ _ | exact Kd.N_nil _ _ _ _ _ | exact Kd.V_nil _ _ _ _ _ | exact Kd.Q_nil _ _ _ _ _ | exact Kd.S_nil _ _ _ _ _, by first | exact Kd.S_nil _ _ _ _ _ | exact Kd.N_nil _ _ _ _ _ | exact Kd.V_nil _ _ _ _ _ | exact Kd.Q_nil _ _ _ _ _ | exact Kd.R_nil _ _ _ _ _, by repeat (first | (with_reducible first | exact HB.out | apply below_alloc | apply pw_below_drewN | apply below_drew1 | refine below_set ?_ ad.out | refine below_set ?_ ag.out | refine below_set ?_ az.out) | exact HB.out)⟩
 ·rw [if_neg c3] at H
  have c3b0 : decide (40 < (ak.length : Int)) = false := decide_eq_false c3
  have c3b1 : decide (40 < ak.length) = false := decide_eq_false (by omega)
  clear c3
  simp only [Option.some.injEq, Prod.mk.injEq] at H
  obtain ⟨rfl, rfl, rfl⟩ := H
  go_enter Try.func68, Try.ntmps68
  go_wp2_with (first | ((with_reducible refine gate_dst (N := 1) rfl ?_); refine box_event ?hg (N := 1) ?hd (cs := #[.slice A0_0 l0_0.length c0_0, .slice A0_1 l0_1.length c0_1]) (t := 27) ?hr ?_; (case hd => rfl); (case hg => rfl); (case hr => first | (go_simp; done) | (go_simp; rfl)); intro ai hg w16 hbox hb; replace aa := am_ (hbox); replace aE := am_ ((by rw [hg]; exact (below_size (b0_ HB.out)) : w.heap.size ≤ ai)); replace ad := am_ ((by rw [hg]; exact (below_size (b0_ HB.out)) : w.heap.size ≤ ai)); replace HB := am_ (below_step (b0_ HB.out) hb); clear hb hbox hg) | ((with_reducible refine gate_dst (N := 2) rfl ?_); refine box_event ?hg (N := 2) ?hd (cs := #[.slice none 0 0, .slice none 0 0]) (t := 27) ?hr ?_; (case hd => rfl); (case hg => rfl); (case hr => first | (go_simp; done) | (go_simp; rfl)); intro ae hg w17 hbox hb; have n0_ := am_ (blk_below (rb_ aa.out) hb); have n1_ := am_ (below_step (b1_ HB.out ad.out) hb); have n2_ := am_ (hbox); have n3_ := am_ ((by rw [hg]; exact (below_size (b1_ HB.out ad.out)) : w.heap.size ≤ ae)); have n4_ := am_ ((by rw [hg]; exact (below_size (b1_ HB.out ad.out)) : w.heap.size ≤ ae)); have n5_ := am_ ((by rw [hg]; exact Nat.ne_of_lt (blk_lt (rb_ aa.out)) : ai ≠ ae)); have n6_ := am_ ((by rw [hg]; exact Nat.ne_of_gt (blk_lt (rb_ aa.out)) : ae ≠ ai)); clear aa; clear HB; have aa := n0_; have HB := n1_; have ab := n2_; have aF := n3_; have ag := n4_; have an := n5_; have ao := n6_; clear n0_ n1_ n2_ n3_ n4_ n5_ n6_; clear hb hbox hg; have bp := an.out; have bq := ao.out; have aV := ck_ (v := (.slice A0_0 l0_0.length c0_0)) aa 0 rfl; have aW := ck_ (v := (.slice A0_1 l0_1.length c0_1)) aa 1 rfl; have aX := blk_frozen aa.out 0; have aY := blk_frozen aa.out 1) | ((with_reducible refine gate_callee (f := 56) rfl ?_); refine gL_ (some 6) Try.func56 #[.agg #[.slice A0_0 l0_0.length c0_0, .slice A0_1 l0_1.length c0_1], .int .i64 0] ?_; (with_reducible refine (impl_minimized.calls _ _ l0_0 _ _ l0_1 0 ak au _ ?side1 ?side2 ?side3 ?side4 A2.out).mono ?_); (case side1 => exact rc_ (Kd.C_below aA.out HB.out)); (case side2 => exact aB.out); (case side3 => exact rc_ (Kd.C_below aC.out HB.out)); (case side4 => exact aD.out); rintro e w20 ⟨aH, aI, rfl, ho0, ho1, hb⟩; refine ⟨_, rfl, ?_⟩; have n0_ := am_ (Kd.R_lower ho0 (below_size (b2_ HB.out ad.out ag.out))); have n1_ := am_ (Kd.S_lower ho1 (below_size (b2_ HB.out ad.out ag.out))); have n2_ := am_ (blk_below (rb_ aa.out) hb); have n3_ := am_ (blk_below (rb_ ab.out) hb); have n4_ := am_ (below_step (b2_ HB.out ad.out ag.out) hb); clear aa; clear ab; clear HB; have al := n0_; have am := n1_; have aa := n2_; have ab := n3_; have HB := n4_; clear n0_ n1_ n2_ n3_ n4_; (try clear hb); (try clear hb2); (try clear hk); (try clear hi); (try clear ho0); (try clear ho1)) | ((with_reducible refine gate_dst (N := 4) rfl ?_); refine box_event ?hg (N := 4) ?hd (cs := #[.slice none 0 0, .slice none 0 0]) (t := 27) ?hr ?_; (case hd => rfl); (case hg => rfl); (case hr => first | (go_simp; done) | (go_simp; rfl)); intro af hg w21 hbox hb; have n0_ := am_ (Kd.R_below (rr_ al.out) hb); have n1_ := am_ (Kd.S_below (rs_ am.out) hb); have n2_ := am_ (blk_below (rb_ aa.out) hb); have n3_ := am_ (blk_below (rb_ ab.out) hb); have n4_ := am_ (below_step (b2_ HB.out ad.out ag.out) hb); have n5_ := am_ (hbox); have n6_ := am_ ((by rw [hg]; exact (below_size (b2_ HB.out ad.out ag.out)) : w.heap.size ≤ af)); have n7_ := am_ ((by rw [hg]; exact (below_size (b2_ HB.out ad.out ag.out)) : w.heap.size ≤ af)); have n8_ := am_ ((by rw [hg]; exact Nat.ne_of_lt (blk_lt (rb_ aa.out)) : ai ≠ af)); have n9_ := am_ ((by rw [hg]; exact Nat.ne_of_gt (blk_lt (rb_ aa.out)) : af ≠ ai)); have n10_ := am_ ((by rw [hg]; exact Nat.ne_of_lt (blk_lt (rb_ ab.out)) : ae ≠ af)); have n11_ := am_ ((by rw [hg]; exact Nat.ne_of_gt (blk_lt (rb_ ab.out)) : af ≠ ae)); clear al; clear am; clear aa; clear ab; clear HB; have al := n0_; have am := n1_; have aa := n2_; have ab := n3_; have HB := n4_; have aj := n5_; have aG := n6_; have az := n7_; have ap := n8_; have aq := n9_; have ah := n10_; have ar := n11_; clear n0_ n1_ n2_ n3_ n4_ n5_ n6_ n7_ n8_ n9_ n10_ n11_; clear hb hbox hg; obtain ⟨av, aw, aL⟩ := Kd.R_slice al.out; subst aL; have br := aq.out; have bs := ap.out; have bt := ar.out; have bu := ah.out; have aZ := ck_ (v := (.slice none 0 0)) aj 0 rfl; have ba := ck_ (v := (.slice none 0 0)) aj 1 rfl; have bb := blk_frozen aj.out 0; have bc := blk_frozen aj.out 1; obtain ⟨ax, ay, aM⟩ := Kd.S_slice am.out; subst aM; have bd := ck_ (v := (.slice none 0 0)) ab 0 rfl; have be := ck_ (v := (.slice none 0 0)) ab 1 rfl; have bf := blk_frozen ab.out 0; have bg := blk_frozen ab.out 1))
  refine bodyPost_ret (results_ct rfl _ _ ae 27 #[.slice av ak.length aw, .slice ax au.length ay] (0, 0) _ rfl (by refine rb_ ?_; refine blk_put (cs := #[.slice av ak.length aw, .slice none 0 0]) ?_ 1 _ rfl; refine rb_ ?_; refine blk_put (cs := #[.slice none 0 0, .slice none 0 0]) ?_ 0 _ rfl; refine rb_ ?_; refine blk_far ?_ ah.out _; refine rb_ ?_; refine blk_far ?_ ah.out _; refine rb_ ?_; exact ab.out) Try.underlying27 rfl (by kernel_rfl)) rfl ?_
  exact ⟨_, _, by first | rfl | (simp [errW_none, errW_some] <;> rfl) | (simp [*, errW_none, errW_some] <;> rfl), by refine rr_ ?_; exact Kd.R_mono (Kd.R_far (p := ⟨ae, 1, none⟩) (Kd.R_far (p := ⟨ae, 0, none⟩) (Kd.R_far (p := ⟨af, 1, none⟩) (Kd.R_far (p := ⟨af, 0, none⟩) (Kd.R_types (Kd.R_types al.out aj.out (by decide)) ab.out (by decide)) (fun _ hk => hk.1.2) (.slice av ak.length aw)) (fun _ hk => hk.1.2) (.slice ax au.length ay)) (fun _ hk => hk.2) (.slice av ak.length aw)) (fun _ hk => hk.2) (.slice ax au.length ay)) (fun _ hk => trivial), by refine rs_ ?_; exact Kd.S_mono (Kd.S_far (p := ⟨ae, 1, none⟩) (Kd.S_far (p := ⟨ae, 0, none⟩) (Kd.S_far (p := ⟨af, 1, none⟩) (Kd.S_far (p := ⟨af, 0, none⟩) (Kd.S_types (Kd.S_types am.out aj.out (by decide)) ab.out (by decide)) (fun _ hk => hk.1.2) (.slice av ak.length aw)) (fun _ hk => hk.1.2) (.slice ax au.length ay)) (fun _ hk => hk.2) (.slice av ak.length aw)) (fun _ hk => hk.2) (.slice ax au.length ay)) (fun _ hk => trivial), by repeat (first | (with_reducible first | exact HB.out | apply below_alloc | apply pw_below_drewN | apply below_drew1 | refine below_set ?_ ad.out | refine below_set ?_ ag.out | refine below_set ?_ az.out) | exact HB.out)⟩
end Go.Proofs.Ytogamkblkoobkaa.P
end
section
namespace Go.Proofs.Ytogamkblkoobkaa.Wk
open Go.RowKit Go.Shelf Go.Proofs.Ytogamkblkoobkaa.P Go.Proofs.Ytogamkblkoobkaa.Pl Go.Proofs.Ytogamkblkoobkaa.Mp Go.Proofs.Ytogamkblkoobkaa.Bf Go.Proofs.Ytogamkblkoobkaa.Mn Go.Proofs.Ytogamkblkoobkaa.Lg Go.Proofs.Ytogamkblkoobkaa.Can Go.Proofs.YtogamkblkoobkaaW.PrintWords Go.Proofs.YtogamkblkoobkaaW.PrintLast Go.Proofs.YtogamkblkoobkaaW.PrintMore
set_option linter.unusedVariables false
set_option linter.unusedSimpArgs false
theorem tabpn : rtab .any (opsOf Try.f67 1) = Tn1 := by kernel_rfl
theorem bitspn : waitsOk Tn1.2 Bn1 = true := by kernel_rfl
def bothB (kind : Int) (u v : Bool) : Bool := if kind = 6 then u || v else u && v
set_option maxHeartbeats 4000000 in
set_option maxRecDepth 100000 in
theorem pdAcc (A0 : Option Addr) (c0 : Nat) (l0 : List Bool) (A1 : Option Addr) (c1 : Nat) (l1 : List Bool) (G Ga Gb : Nat) (kind : Int) (hk : kind = 6 ∨ kind = 7) (x : Pr) (W : World)
    (hx0 : 0 ≤ x.1) (hx1 : x.1 < l0.length) (hy0 : 0 ≤ x.2) (hy1 : x.2 < l1.length) (hG : W.cell? ⟨G, 0, none⟩ = some (.int .i64 kind)) (ha : W.cell? ⟨Ga, 0, none⟩ = some (.slice A0 l0.length c0)) (hb : W.cell? ⟨Gb, 0, none⟩ = some (.slice A1 l1.length c1))
    (hr0 : Kd.C Kd.bool W A0 l0.length l0) (hr1 : Kd.C Kd.bool W A1 l1.length l1) :
    Calls Try.prog 66 (#[.agg #[.int .i64 x.1, .int .i64 x.2]] ++ #[.pointer (some ⟨G, 0, none⟩), .pointer (some ⟨Ga, 0, none⟩), .pointer (some ⟨Gb, 0, none⟩)]) W fun e W' => e = .returned (.bool (bothB kind (rdOf false l0 x.1) (rdOf false l1 x.2))) ∧ Below W.heap.size W W' := by
  obtain ⟨a0, rfl, hu⟩ := Kd.at_bool hr0 x.1 hx0 hx1
  obtain ⟨a1, rfl, hv⟩ := Kd.at_bool hr1 x.2 hy0 hy1
  generalize rdOf false l0 x.1 = u at hu ⊢
  generalize rdOf false l1 x.2 = v at hv ⊢
  have HB := am_ (below_alloc (Below.refl W.heap.size W) (Obj.cells #[Value.int IntKind.i64 x.1, Value.int IntKind.i64 x.2] 72))
  have kG := pw_cell_below HB.out hG
  have ka := pw_cell_below HB.out ha
  have kb := pw_cell_below HB.out hb
  have ku := pw_cell_below HB.out hu
  have kv := pw_cell_below HB.out hv
  have p1 := eq_true hx0
  have q1 := eq_true hx1
  have p2 := eq_true hy0
  have q2 := eq_true hy1
  clear hx0 hx1 hy0 hy1 hr0 hr1 hG ha hb hu hv
  rcases hk with rfl | rfl <;> cases u <;> cases v
  all_goals
    go_enter Try.func66, Try.ntmps66
    go_wp2
    go_ret
    exact ⟨rfl, HB.out⟩
set_option maxRecDepth 100000 in
set_option maxHeartbeats 4000000 in
theorem pdNext (A0 : Option Addr) (c0 : Nat) (l0 : List (List Int)) (A1 : Option Addr) (c1 : Nat) (l1 : List (List Int)) (Ga Gb : Nat) (x : Pr) (j : Nat) (W : World)
    (hx0 : 0 ≤ x.1) (hx1 : x.1 < l0.length) (hy0 : 0 ≤ x.2) (hy1 : x.2 < l1.length) (hj0 : j < (l0.getD x.1.toNat []).length) (hj1 : j < (l1.getD x.2.toNat []).length) (ha : W.cell? ⟨Ga, 1, none⟩ = some (.slice A0 l0.length c0)) (hb : W.cell? ⟨Gb, 1, none⟩ = some (.slice A1 l1.length c1))
    (hr0 : Kd.C (Kd.slice 3 (Kd.int .i64)) W A0 l0.length l0) (hr1 : Kd.C (Kd.slice 3 (Kd.int .i64)) W A1 l1.length l1) :
    Calls Try.prog 67 (#[.agg #[.int .i64 x.1, .int .i64 x.2], .int .i64 j] ++ #[.pointer (some ⟨Ga, 0, none⟩), .pointer (some ⟨Gb, 0, none⟩)]) W fun e W' => e = .returned (.agg #[.int .i64 (nxD l0 x.1 j), .int .i64 (nxD l1 x.2 j)]) ∧ Below W.heap.size W W' := by
  obtain ⟨a0, rfl, hcell0⟩ := cellsRows hr0 (by omega)
  obtain ⟨Aj0, cj0, hu, hrow0⟩ := hcell0 x.1.toNat (by omega)
  obtain ⟨a1, rfl, hcell1⟩ := cellsRows hr1 (by omega)
  obtain ⟨Aj1, cj1, hv, hrow1⟩ := hcell1 x.2.toNat (by omega)
  unfold nxD
  generalize l0.getD x.1.toNat [] = row0 at hj0 hu hrow0 ⊢
  generalize l1.getD x.2.toNat [] = row1 at hj1 hv hrow1 ⊢
  obtain ⟨b0, rfl, hs⟩ := Kd.at_int hrow0 (j : Int) (by omega) (by omega)
  obtain ⟨b1, rfl, ht⟩ := Kd.at_int hrow1 (j : Int) (by omega) (by omega)
  generalize rd row0 j = y0 at hs ⊢
  generalize rd row1 j = y1 at ht ⊢
  rw [Int.toNat_natCast] at hs ht
  have p1 := eq_true hx0
  have q1 := eq_true hx1
  have p2 := eq_true hy0
  have q2 := eq_true hy1
  have p3 : ((0 : Int) ≤ (j : Int)) = True := eq_true (by omega)
  have q3 : ((j : Int) < (row0.length : Int)) = True := eq_true (by omega)
  have q4 : ((j : Int) < (row1.length : Int)) = True := eq_true (by omega)
  have HB := am_ (below_alloc (below_alloc (Below.refl W.heap.size W) (Obj.cells #[Value.int IntKind.i64 x.1, Value.int IntKind.i64 x.2] 72)) (Obj.cells #[Value.int IntKind.i64 0, Value.int IntKind.i64 0] 72))
  have ka := pw_cell_below HB.out ha
  have kb := pw_cell_below HB.out hb
  have ku := pw_cell_below HB.out hu
  have kv := pw_cell_below HB.out hv
  have ks := pw_cell_below HB.out hs
  have kt := pw_cell_below HB.out ht
  clear hx0 hx1 hy0 hy1 hr0 hr1 ha hb hu hv hs ht hcell0 hcell1 hrow0 hrow1 hj0 hj1
  go_enter Try.func67, Try.ntmps67
  go_wp2
  have s0 : World.cell? ((W.alloc (Obj.cells #[Value.int IntKind.i64 x.1, Value.int IntKind.i64 x.2] 72)).alloc (Obj.cells #[Value.int IntKind.i64 0, Value.int IntKind.i64 0] 72)) ⟨W.heap.size, 0, none⟩ = some (.int .i64 x.1) := pw_cell_below (below_alloc (Below.refl _ _) _) (by simp)
  have s1 : World.cell? ((W.alloc (Obj.cells #[Value.int IntKind.i64 x.1, Value.int IntKind.i64 x.2] 72)).alloc (Obj.cells #[Value.int IntKind.i64 0, Value.int IntKind.i64 0] 72)) ⟨W.heap.size, 1, none⟩ = some (.int .i64 x.2) := pw_cell_below (below_alloc (Below.refl _ _) _) (by simp)
  have HBD := am_ (below_drew HB.out)
  refine start_ (n := 20) (S := (fun w' => w'.cell? ⟨Ga, 1, none⟩ = some (.slice (some a0) l0.length c0) ∧ w'.cell? ⟨Gb, 1, none⟩ = some (.slice (some a1) l1.length c1) ∧ w'.cell? ⟨W.heap.size, 0, none⟩ = some (.int .i64 x.1) ∧ w'.cell? ⟨W.heap.size, 1, none⟩ = some (.int .i64 x.2) ∧ w'.cell? (a0.add x.1.toNat) = some (.slice (some b0) row0.length cj0) ∧ w'.cell? (a1.add x.2.toNat) = some (.slice (some b1) row1.length cj1) ∧ w'.cell? (b0.add j) = some (.int .i64 y0) ∧ w'.cell? (b1.add j) = some (.int .i64 y1))) (ds := [19]) (bl 20 0) (by kernel_rfl) rfl rfl (⟨ka, kb, s0, s1, ku, kv, ks, kt⟩) (fun hHeld => ?_); refine with_tabW tabpn bitspn (fun HT_ HW_ => ?_)
  refine ph_ 0 7 (bl 20 1) HT_ ?_
  refine ph_ 2 9 (bl 20 5) HT_ ?_
  refine ph_ 6 13 (bl 20 69) HT_ ?_
  refine ph_ 9 16 (bl 20 581) HT_ ?_
  refine ph_ 11 18 (bl 20 2629) HT_ ?_
  refine ph_ 15 22 (bl 20 35397) HT_ ?_
  refine th_ 1 8 (bl 20 35399) HT_ HW_ hHeld ?_
  refine th_ 3 10 (bl 20 35407) HT_ HW_ hHeld ?_
  refine ph_ 4 11 (bl 20 35423) HT_ ?_
  refine th_ 5 12 (bl 20 35455) HT_ HW_ hHeld ?_
  refine ph_ 7 14 (bl 20 35583) HT_ ?_
  refine th_ 8 15 (bl 20 35839) HT_ HW_ hHeld ?_
  refine th_ 10 17 (bl 20 36863) HT_ HW_ hHeld ?_
  refine th_ 12 19 (bl 20 40959) HT_ HW_ hHeld ?_
  refine ph_ 13 20 (bl 20 49151) HT_ ?_
  refine th_ 14 21 (bl 20 65535) HT_ HW_ hHeld ?_
  refine ph_ 16 23 (bl 20 131071) HT_ ?_
  refine th_ 17 24 (bl 20 262143) HT_ HW_ hHeld ?_
  refine ph_ 18 25 (bl 20 524287) HT_ ?_
  refine last_ (i := 19) (N := none) (bl 20 1048575) rfl rfl (one_of HT_.out (by kernel_rfl)) (by decide) (fun K hK => ?_)
  refine skip_ (w1 := ?_) (by rfl) rfl ?_ ?_
  rotate_left
  · go_simp
    rfl
  refine hK.out _ _ ?_
  clear hK K
  refine done_ (done_of HT_.out (by kernel_rfl)) ?_
  clear HT_ HW_ hHeld ka kb ku kv ks kt s0 s1 HBD
  go_wp2
  refine bodyPost_ret (v := .agg #[.int .i64 y0, .int .i64 y1]) (by simp [results, Try.results67, go_sem]) rfl ⟨rfl, ?_⟩
  exact below_drew (below_alloc (below_alloc (Below.refl _ _) _) _)
def pdX (a : List Bool) (n : List (List Int)) (b : List Bool) (m : List (List Int)) (kind : Int) : Ex Pr := (expl (gdP (bothB kind) a b) (nxP n m) 1600 1602 ([((0 : Int), (0 : Int))], [], []) 0).getD ([], [], [])
def pdR (a : List Bool) (n : List (List Int)) (b : List Bool) (m : List (List Int)) (kind : Int) : List Bool × List (List Int) × Bool := if (validD a n = true ∧ validD b m = true) ∧ (kind = 6 ∨ kind = 7) then fitD (pdX a n b m kind).2.1 (pdX a n b m kind).2.2 else ([], [], false)
theorem pair_sc {a b : List Bool} {n m : List (List Int)} (hv : validD a n = true) (hw : validD b m = true) : ∀ x : Pr, ((0 ≤ x.1 ∧ x.1 < (a.length : Int)) ∧ 0 ≤ x.2 ∧ x.2 < (b.length : Int)) → ∀ y ∈ sc (nxP n m) x, ((0 ≤ y.1 ∧ y.1 < (a.length : Int)) ∧ 0 ≤ y.2 ∧ y.2 < (b.length : Int)) := fun x hx y hy => by
  simp only [sc, tl, List.mem_cons, List.not_mem_nil, or_false] at hy
  rcases hy with rfl | rfl | rfl
  · exact pair_dom hv hw x 0 hx (by omega)
  · exact pair_dom hv hw x 1 hx (by omega)
  · exact pair_dom hv hw x 2 hx (by omega)
theorem pd_some {a b : List Bool} {n m : List (List Int)} {kind : Int} (hv : validD a n = true) (hw : validD b m = true) : ∃ q, expl (gdP (bothB kind) a b) (nxP n m) 1600 1602 ([((0 : Int), (0 : Int))], [], []) 0 = some q ∧ pdX a n b m kind = q ∧ Auto (gdP (bothB kind) a b) (nxP n m) ((0 : Int), (0 : Int)) q.2.1 q.2.2 ∧ q.2.1.length ≤ 1600 := by
  obtain ⟨h1, h2, _⟩ := validD_facts hv
  obtain ⟨g1, g2, _⟩ := validD_facts hw
  have hN : a.length * b.length ≤ 40 * 40 := Nat.mul_le_mul h2 g2
  cases he : expl (gdP (bothB kind) a b) (nxP n m) 1600 1602 ([((0 : Int), (0 : Int))], [], []) 0 with
  | some q =>
    obtain ⟨e1, e2⟩ := expl_auto (most := 1600) (by omega) he
    exact ⟨q, rfl, by unfold pdX; rw [he]; rfl, e1, e2⟩
  | none =>
    have h0 : ∀ x ∈ [((0 : Int), (0 : Int))], (0 ≤ x.1 ∧ x.1 < (a.length : Int)) ∧ 0 ≤ x.2 ∧ x.2 < (b.length : Int) := fun x hx => by rw [List.mem_singleton] at hx; subst hx; exact ⟨⟨by show (0 : Int) ≤ 0; omega, by show (0 : Int) < _; omega⟩, by show (0 : Int) ≤ 0; omega, by show (0 : Int) < _; omega⟩
    obtain ⟨R, hR⟩ := Runs.ends (succ := sc (nxP n m)) (N := a.length * b.length) (pair_sc hv hw) (fun s hn hs => card_pairs a.length b.length s hn hs) (a.length * b.length) [((0 : Int), (0 : Int))] 0 (by simp) h0 (by simp) (by omega)
    have h3 := expl_none 1602 _ 0 R he hR
    have h4 := card_pairs a.length b.length R (hR.nodup (by simp)) (hR.all (pair_sc hv hw) h0)
    omega
theorem wf_st {n : Nat} (hn : n ≤ 40) {x : Int} (h : 0 ≤ x ∧ x < (n : Int)) : wfI x := by simp [wfI, Lit.wf, IntKind.min, IntKind.max, IntKind.signed, IntKind.bits]; omega
theorem pd_fit {A : List Bool} {M : List (List Int)} (h1 : 1 ≤ A.length) (h2 : A.length ≤ 1600) (h3 : Rows3 A.length M) : impl_fitting.f A M = some (fitD A M) := by
  unfold impl_fitting.f impl_minimized.f
  rw [if_pos ⟨h3.1, by omega, h3.2, by omega, by omega⟩]
  unfold fitD
  simp only [Option.bind_some]
  by_cases h : (minD A M 0).1.length ≤ 40
  · rw [if_neg (show ¬ ((minD A M 0).1.length : Int) > 40 by omega), if_pos h]
  · rw [if_pos (show ((minD A M 0).1.length : Int) > 40 by omega), if_neg h]
set_option maxHeartbeats 4000000 in
set_option maxRecDepth 100000 in
theorem pdCalls (A0 : Option Addr) (c0 : Nat) (l0 : List Bool) (A1 : Option Addr) (c1 : Nat) (l1 : List (List Int)) (B0 : Option Addr) (d0 : Nat) (m0 : List Bool) (B1 : Option Addr) (d1 : Nat) (m1 : List (List Int)) (kind : Int) (w : World) (hr0 : Kd.C Kd.bool w A0 l0.length l0) (hr1 : Kd.C (Kd.slice 3 (Kd.int .i64)) w A1 l1.length l1) (hs0 : Kd.C Kd.bool w B0 m0.length m0) (hs1 : Kd.C (Kd.slice 3 (Kd.int .i64)) w B1 m1.length m1) :
    Calls Try.prog 20 #[.agg #[.slice A0 l0.length c0, .slice A1 l1.length c1], .agg #[.slice B0 m0.length d0, .slice B1 m1.length d1], .int .i64 kind] w fun e w' => ∃ v0 v1 : Value, e = .returned (.tuple #[.agg #[v0, v1], .bool (pdR l0 l1 m0 m1 kind).2.2]) ∧ Kd.R Kd.bool 4 w' w.heap.size (fun _ => True) v0 (pdR l0 l1 m0 m1 kind).1 ∧ Kd.S (Kd.slice 3 (Kd.int .i64)) 67 w' w.heap.size (fun _ => True) v1 (pdR l0 l1 m0 m1 kind).2.1 ∧ Below w.heap.size w w' := by
  have hu := Try.underlying27
  have HV := am_ (fun W (hb : Below w.heap.size w W) => validCalls A0 c0 l0 A1 c1 l1 W (Kd.C_below hr0 hb) (Kd.C_below hr1 hb))
  have HV2 := am_ (fun W (hb : Below w.heap.size w W) => validCalls B0 d0 m0 B1 d1 m1 W (Kd.C_below hs0 hb) (Kd.C_below hs1 hb))
  obtain ⟨OA, hOA⟩ : ∃ o : Obj, o = Obj.cells #[.slice A0 l0.length c0, .slice A1 l1.length c1] 27 := ⟨_, rfl⟩
  obtain ⟨OB, hOB⟩ : ∃ o : Obj, o = Obj.cells #[.slice B0 m0.length d0, .slice B1 m1.length d1] 27 := ⟨_, rfl⟩
  obtain ⟨OK, hOK⟩ : ∃ o : Obj, o = Obj.cells #[.int .i64 kind] 3 := ⟨_, rfl⟩
  obtain ⟨OD, hOD⟩ : ∃ o : Obj, o = Obj.cells #[.slice none 0 0, .slice none 0 0] 27 := ⟨_, rfl⟩
  have HB0 : Aside0 (Below w.heap.size w ((((w.alloc OA).alloc OB).alloc OK).alloc OD)) := ⟨below_alloc (below_alloc (below_alloc (below_alloc (Below.refl w.heap.size w) _) _) _) _⟩
  have KA0 : Aside0 (World.cell? ((((w.alloc OA).alloc OB).alloc OK).alloc OD) ⟨w.heap.size, 0, none⟩ = some (.slice A0 l0.length c0)) := ⟨by rw [hOA]; exact pw_cell_below (below_alloc (below_alloc (below_alloc (Below.refl _ _) _) _) _) (by simp)⟩
  have KA1 : Aside0 (World.cell? ((((w.alloc OA).alloc OB).alloc OK).alloc OD) ⟨w.heap.size, 1, none⟩ = some (.slice A1 l1.length c1)) := ⟨by rw [hOA]; exact pw_cell_below (below_alloc (below_alloc (below_alloc (Below.refl _ _) _) _) _) (by simp)⟩
  have KB0 : Aside0 (World.cell? ((((w.alloc OA).alloc OB).alloc OK).alloc OD) ⟨w.heap.size + 1, 0, none⟩ = some (.slice B0 m0.length d0)) := ⟨by rw [hOB]; exact pw_cell_below (below_alloc (below_alloc (Below.refl _ _) _) _) (by simp)⟩
  have KB1 : Aside0 (World.cell? ((((w.alloc OA).alloc OB).alloc OK).alloc OD) ⟨w.heap.size + 1, 1, none⟩ = some (.slice B1 m1.length d1)) := ⟨by rw [hOB]; exact pw_cell_below (below_alloc (below_alloc (Below.refl _ _) _) _) (by simp)⟩
  have KK0 : Aside0 (World.cell? ((((w.alloc OA).alloc OB).alloc OK).alloc OD) ⟨w.heap.size + 1 + 1, 0, none⟩ = some (.int .i64 kind)) := ⟨by
    subst hOK
    refine pw_cell_below (below_alloc (Below.refl _ _) _) ?_
    have h0 := (blk_cell (blk_new ((w.alloc OA).alloc OB) (Obj.cells #[.int .i64 kind] 3)) 0).trans (show (#[Value.int .i64 kind] : Array Value)[0]? = some (.int .i64 kind) from rfl)
    simpa using h0⟩
  have HR8 : Aside0 (((((w.alloc OA).alloc OB).alloc OK).alloc OD).heap[w.heap.size + 1 + 1 + 1]? = some (.cells #[.slice none 0 0, .slice none 0 0] 27 (0, 0))) := ⟨by
    have h0 := blk_new (((w.alloc OA).alloc OB).alloc OK) OD
    rw [hOD] at h0 ⊢
    simpa using h0⟩
  have HGE : Aside0 (w.heap.size ≤ w.heap.size + 1 + 1 + 1) := ⟨by omega⟩
  cases hv : validD l0 l1 with
  | false =>
    rw [hv] at HV
    have e : pdR l0 l1 m0 m1 kind = ([], [], false) := by unfold pdR; rw [hv]; rw [if_neg]; rintro ⟨⟨h, _⟩, _⟩; cases h
    rw [e]
    subst hOA hOB hOK hOD
    clear hv e hr0 hr1 hs0 hs1 HV2
    go_enter Try.func20, Try.ntmps20
    go_wp2_with (go_at_call 39; (with_reducible refine (HV.out _ ?hq0).mono ?_); (case hq0 => exact HB0.out); rintro e w1 ⟨rfl, hb⟩; have HB := bt_ HB0 hb; have HR9 := am_ (blk_below HR8.out hb); have hcz0 : World.cell? w1 ⟨w.heap.size + 1 + 1 + 1, 0, none⟩ = some (.slice none 0 0) := (blk_cell HR9.out 0).trans rfl; have hcz1 : World.cell? w1 ⟨w.heap.size + 1 + 1 + 1, 1, none⟩ = some (.slice none 0 0) := (blk_cell HR9.out 1).trans rfl; have hfz0 := blk_frozen HR9.out 0; have hfz1 := blk_frozen HR9.out 1; clear hb)
    have HT4 : Aside0 (((w1.setCell ⟨w.heap.size + 1 + 1 + 1, 0, none⟩ (.slice none 0 0)).setCell ⟨w.heap.size + 1 + 1 + 1, 1, none⟩ (.slice none 0 0)).heap[w.heap.size + 1 + 1 + 1]? = some (.cells #[.slice none 0 0, .slice none 0 0] 27 (0, 0))) := ⟨blk_put (blk_put (cs' := #[.slice none 0 0, .slice none 0 0]) HR9.out 0 _ rfl) 1 _ rfl⟩
    refine bodyPost_ret (results_ct rfl _ _ (w.heap.size + 1 + 1 + 1) 27 #[.slice none 0 0, .slice none 0 0] (0, 0) _ rfl HT4.out Try.underlying27 rfl (by kernel_rfl)) rfl ?_
    exact ⟨_, _, rfl, Kd.R_nil _ _ _ _ _, Kd.S_nil _ _ _ _ _, below_set (below_set HB.out HGE.out) HGE.out⟩
  | true =>
    rw [hv] at HV
    cases hv2 : validD m0 m1 with
    | false =>
      rw [hv2] at HV2
      have e : pdR l0 l1 m0 m1 kind = ([], [], false) := by unfold pdR; rw [hv2]; rw [if_neg]; rintro ⟨⟨_, h⟩, _⟩; cases h
      rw [e]
      subst hOA hOB hOK hOD
      clear hv hv2 e hr0 hr1 hs0 hs1
      go_enter Try.func20, Try.ntmps20
      go_wp2_with (first | (go_at_call 39; (with_reducible refine (HV.out _ ?hq0).mono ?_); (case hq0 => exact HB0.out); rintro e w1 ⟨rfl, hb⟩; have HB1 := bt_ HB0 hb; have HR1 := am_ (blk_below HR8.out hb); have ha0 := am_ (pw_cell_below hb KA0.out); have ha1 := am_ (pw_cell_below hb KA1.out); have hb0 := pw_cell_below hb KB0.out; have hb1 := pw_cell_below hb KB1.out; have hk0 := am_ (pw_cell_below hb KK0.out); clear hb) | (go_at_call 39; (with_reducible refine (HV2.out _ ?hq1).mono ?_); (case hq1 => exact HB1.out); rintro e w2 ⟨rfl, hb⟩; have HB := bt_ HB1 hb; have HR9 := am_ (blk_below HR1.out hb); have hc0 := am_ (pw_cell_below hb ha0.out); have hc1 := am_ (pw_cell_below hb ha1.out); have hc2 := am_ (pw_cell_below hb hb0); have hc3 := am_ (pw_cell_below hb hb1); have hc4 := pw_cell_below hb hk0.out; have hcz0 : World.cell? w2 ⟨w.heap.size + 1 + 1 + 1, 0, none⟩ = some (.slice none 0 0) := (blk_cell HR9.out 0).trans rfl; have hcz1 : World.cell? w2 ⟨w.heap.size + 1 + 1 + 1, 1, none⟩ = some (.slice none 0 0) := (blk_cell HR9.out 1).trans rfl; have hfz0 := blk_frozen HR9.out 0; have hfz1 := blk_frozen HR9.out 1; clear hb hb0 hb1))
      have HT4 : Aside0 (((w2.setCell ⟨w.heap.size + 1 + 1 + 1, 0, none⟩ (.slice none 0 0)).setCell ⟨w.heap.size + 1 + 1 + 1, 1, none⟩ (.slice none 0 0)).heap[w.heap.size + 1 + 1 + 1]? = some (.cells #[.slice none 0 0, .slice none 0 0] 27 (0, 0))) := ⟨blk_put (blk_put (cs' := #[.slice none 0 0, .slice none 0 0]) HR9.out 0 _ rfl) 1 _ rfl⟩
      refine bodyPost_ret (results_ct rfl _ _ (w.heap.size + 1 + 1 + 1) 27 #[.slice none 0 0, .slice none 0 0] (0, 0) _ rfl HT4.out Try.underlying27 rfl (by kernel_rfl)) rfl ?_
      exact ⟨_, _, rfl, Kd.R_nil _ _ _ _ _, Kd.S_nil _ _ _ _ _, below_set (below_set HB.out HGE.out) HGE.out⟩
    | true =>
      rw [hv2] at HV2
      by_cases hkk : kind = 6 ∨ kind = 7
      · obtain ⟨q, he, hx, hau, hq16⟩ := pd_some (kind := kind) hv hv2
        have e : pdR l0 l1 m0 m1 kind = fitD q.2.1 q.2.2 := by unfold pdR; rw [if_pos ⟨⟨hv, hv2⟩, hkk⟩, hx]
        rw [e]
        obtain ⟨g1, g2⟩ := hau.rows
        have HFT := am_ (pd_fit g1 hq16 g2)
        generalize fitD q.2.1 q.2.2 = fr at HFT ⊢
        obtain ⟨f1, f2, f3⟩ := fr
        obtain ⟨n1, n2, n3, n4⟩ := validD_facts hv
        obtain ⟨k1, k2, k3, k4⟩ := validD_facts hv2
        have hrow := fun (x : Int) (h : 0 ≤ x ∧ x < (l0.length : Int)) => (fits_valid hv).row x h
        have hrow2 := fun (x : Int) (h : 0 ≤ x ∧ x < (m0.length : Int)) => (fits_valid hv2).row x h
        have hpd := pair_dom hv hv2
        have HEX : Aside0 (∀ (Ga Gb G : Nat) (W : World), Below w.heap.size w W → W.cell? ⟨Ga, 0, none⟩ = some (.slice A0 l0.length c0) → W.cell? ⟨Ga, 1, none⟩ = some (.slice A1 l1.length c1) → W.cell? ⟨Gb, 0, none⟩ = some (.slice B0 m0.length d0) → W.cell? ⟨Gb, 1, none⟩ = some (.slice B1 m1.length d1) → W.cell? ⟨G, 0, none⟩ = some (.int .i64 kind) →
            Calls Try.prog 65 #[.agg #[.int .i64 0, .int .i64 0], .int .i64 1600, .func (.func 66) #[] #[.pointer (some ⟨G, 0, none⟩), .pointer (some ⟨Ga, 0, none⟩), .pointer (some ⟨Gb, 0, none⟩)], .func (.func 67) #[] #[.pointer (some ⟨Ga, 0, none⟩), .pointer (some ⟨Gb, 0, none⟩)]] W (fun e w' => ∃ v0 v1 vl : Value, e = .returned (.tuple #[.agg #[v0, v1], vl, .bool true]) ∧ Kd.R Kd.bool 4 w' W.heap.size (fun _ => True) v0 q.2.1 ∧ Kd.S (Kd.slice 3 (Kd.int .i64)) 67 w' W.heap.size (fun _ => True) v1 q.2.2 ∧ Below W.heap.size W w')) := ⟨fun Ga Gb G W hb h0 h1 h2 h3 h4 => by
          have h := explored_pair (dom := fun x => (0 ≤ x.1 ∧ x.1 < (l0.length : Int)) ∧ 0 ≤ x.2 ∧ x.2 < (m0.length : Int)) 1600 (by omega) (by omega) (gdP (bothB kind) l0 m0) (nxP l1 m1) ((0 : Int), (0 : Int)) 66 67 #[.pointer (some ⟨G, 0, none⟩), .pointer (some ⟨Ga, 0, none⟩), .pointer (some ⟨Gb, 0, none⟩)] #[.pointer (some ⟨Ga, 0, none⟩), .pointer (some ⟨Gb, 0, none⟩)] (enters_of Try.func66 (by kernel_rfl) rfl) (enters_of Try.func67 (by kernel_rfl) rfl) W
            ⟨⟨by show (0 : Int) ≤ 0; omega, by show (0 : Int) < _; omega⟩, by show (0 : Int) ≤ 0; omega, by show (0 : Int) < _; omega⟩ hpd (fun x hx => ⟨wf_st n2 hx.1, wf_st k2 hx.2⟩)
            (fun x hx W' hb' => pdAcc A0 c0 l0 B0 d0 m0 G Ga Gb kind hkk x W' hx.1.1 hx.1.2 hx.2.1 hx.2.2 (pw_cell_below hb' h4) (pw_cell_below hb' h0) (pw_cell_below hb' h2) (Kd.C_below (Kd.C_below hr0 hb) hb') (Kd.C_below (Kd.C_below hs0 hb) hb'))
            (fun x j hx hj W' hb' => pdNext A1 c1 l1 B1 d1 m1 Ga Gb x j W' hx.1.1 (by have := hx.1.2; omega) hx.2.1 (by have := hx.2.2; omega) (by have := (hrow x.1 hx.1).1; unfold rowOf at this; rw [this]; exact hj) (by have := (hrow2 x.2 hx.2).1; unfold rowOf at this; rw [this]; exact hj) (pw_cell_below hb' h1) (pw_cell_below hb' h3) (Kd.C_below (Kd.C_below hr1 hb) hb') (Kd.C_below (Kd.C_below hs1 hb) hb'))
          have he' : expl (gdP (bothB kind) l0 m0) (nxP l1 m1) 1600 (1600 + 2) ([((0 : Int), (0 : Int))], [], []) 0 = some q := he
          rw [he'] at h
          exact h⟩
        subst hOA hOB hOK hOD
        clear hv hv2 e he hx hau hq16 g1 g2 hr0 hr1 hs0 hs1 n1 n2 n3 n4 k1 k2 k3 k4 hrow hrow2 hpd
        rcases hkk with rfl | rfl
        all_goals
          go_enter Try.func20, Try.ntmps20
          go_wp2_with (first | (go_at_call 39; (with_reducible refine (HV.out _ ?hq0).mono ?_); (case hq0 => exact HB0.out); rintro e w1 ⟨rfl, hb⟩; have HB1 := bt_ HB0 hb; have HR1 := am_ (blk_below HR8.out hb); have ha0 := am_ (pw_cell_below hb KA0.out); have ha1 := am_ (pw_cell_below hb KA1.out); have hb0 := pw_cell_below hb KB0.out; have hb1 := pw_cell_below hb KB1.out; have hk0 := am_ (pw_cell_below hb KK0.out); clear hb) | (go_at_call 39; (with_reducible refine (HV2.out _ ?hq1).mono ?_); (case hq1 => exact HB1.out); rintro e w2 ⟨rfl, hb⟩; have HB := bt_ HB1 hb; have HR9 := am_ (blk_below HR1.out hb); have hc0 := am_ (pw_cell_below hb ha0.out); have hc1 := am_ (pw_cell_below hb ha1.out); have hc2 := am_ (pw_cell_below hb hb0); have hc3 := am_ (pw_cell_below hb hb1); have hc4 := pw_cell_below hb hk0.out; have hcz0 : World.cell? w2 ⟨w.heap.size + 1 + 1 + 1, 0, none⟩ = some (.slice none 0 0) := (blk_cell HR9.out 0).trans rfl; have hcz1 : World.cell? w2 ⟨w.heap.size + 1 + 1 + 1, 1, none⟩ = some (.slice none 0 0) := (blk_cell HR9.out 1).trans rfl; have hfz0 := blk_frozen HR9.out 0; have hfz1 := blk_frozen HR9.out 1; clear hb hb0 hb1) | (go_at_call 65; (with_reducible refine (HEX.out w.heap.size (w.heap.size + 1) (w.heap.size + 1 + 1) _ ?z0 ?z1 ?z2 ?z3 ?z4 ?z5).mono ?_); (case z0 => exact HB.out); (case z1 => exact hc0.out); (case z2 => exact hc1.out); (case z3 => exact hc2.out); (case z4 => exact hc3.out); (case z5 => exact hc4); rintro e w3 ⟨v0, v1, vl, rfl, hq0, hq1, hb⟩; have HR10 := am_ (blk_below HR9.out hb); have HB3 := bt_ HB hb; obtain ⟨E0, e0c, e0⟩ := Kd.R_slice hq0; subst e0; obtain ⟨E1, e1c, e1⟩ := Kd.S_slice hq1; subst e1; have HQ0 := am_ hq0; have HQ1 := am_ hq1; clear hq0 hq1 hb hcz0 hcz1 hfz0 hfz1) | (go_at_call 68; (with_reducible refine (impl_fitting.calls _ _ q.2.1 _ _ q.2.2 f1 f2 f3 _ ?y0 ?y1 ?y2 ?y3 HFT.out).mono ?_); (case y0 => exact Kd.C_below (Kd.R_reads' HQ0.out).2.2 (below_alloc (Below.refl _ _) _)); (case y1 => exact (Kd.R_reads' HQ0.out).2.1); (case y2 => exact Kd.C_below (Kd.S_reads' HQ1.out).2.2 (below_alloc (Below.refl _ _) _)); (case y3 => exact (Kd.S_reads' HQ1.out).2.1); rintro e w5 ⟨z0, z1, rfl, hz0, hz1, hb⟩; have HR11 := am_ (blk_below (blk_alloc HR10.out (Obj.cells #[.slice E0 q.2.1.length e0c, .slice E1 q.2.2.length e1c] 27)) hb); have hba := below_alloc HB3.out (Obj.cells #[.slice E0 q.2.1.length e0c, .slice E1 q.2.2.length e1c] 27); have HB5 := am_ (below_then hba hba.size hb); have HZ0 := am_ (Kd.R_lower hz0 hba.size); have HZ1 := am_ (Kd.S_lower hz1 hba.size); obtain ⟨Z0, z0c, e0⟩ := Kd.R_slice hz0; subst e0; obtain ⟨Z1, z1c, e1⟩ := Kd.S_slice hz1; subst e1; have hcz0 : World.cell? w5 ⟨w.heap.size + 1 + 1 + 1, 0, none⟩ = some (.slice none 0 0) := (blk_cell HR11.out 0).trans rfl; have hcz1 : World.cell? w5 ⟨w.heap.size + 1 + 1 + 1, 1, none⟩ = some (.slice none 0 0) := (blk_cell HR11.out 1).trans rfl; have hfz0 := blk_frozen HR11.out 0; have hfz1 := blk_frozen HR11.out 1; clear hz0 hz1 hb hba))
          have HB4' : Aside0 ((w5.setCell ⟨w.heap.size + 1 + 1 + 1, 0, none⟩ (.slice Z0 f1.length z0c)).heap[w.heap.size + 1 + 1 + 1]? = some (.cells #[.slice Z0 f1.length z0c, .slice none 0 0] 27 (0, 0))) := ⟨blk_put HR11.out 0 _ rfl⟩
          have HT4 : Aside0 (((w5.setCell ⟨w.heap.size + 1 + 1 + 1, 0, none⟩ (.slice Z0 f1.length z0c)).setCell ⟨w.heap.size + 1 + 1 + 1, 1, none⟩ (.slice Z1 f2.length z1c)).heap[w.heap.size + 1 + 1 + 1]? = some (.cells #[.slice Z0 f1.length z0c, .slice Z1 f2.length z1c] 27 (0, 0))) := ⟨blk_put HB4'.out 1 _ rfl⟩
          refine bodyPost_ret (results_ct rfl _ _ (w.heap.size + 1 + 1 + 1) 27 #[.slice Z0 f1.length z0c, .slice Z1 f2.length z1c] (0, 0) _ rfl HT4.out Try.underlying27 rfl (by kernel_rfl)) rfl ?_
          exact ⟨_, _, rfl, Kd.R_set (Kd.R_set HZ0.out HR11.out (by decide) 0 _) HB4'.out (by decide) 1 _, Kd.S_set (Kd.S_set HZ1.out HR11.out (by decide) 0 _) HB4'.out (by decide) 1 _, below_set (below_set HB5.out HGE.out) HGE.out⟩
      · have e : pdR l0 l1 m0 m1 kind = ([], [], false) := by unfold pdR; rw [if_neg]; rintro ⟨_, h⟩; exact hkk h
        rw [e]
        subst hOA hOB hOK hOD
        have k6 : (kind = 6) = False := eq_false (fun h => hkk (Or.inl h))
        have k7 : (kind = 7) = False := eq_false (fun h => hkk (Or.inr h))
        have k6b : (kind == 6) = false := beq_eq_false_iff_ne.mpr (fun h => hkk (Or.inl h))
        have k7b : (kind == 7) = false := beq_eq_false_iff_ne.mpr (fun h => hkk (Or.inr h))
        have k6c : (kind != 6) = true := by rw [bne, k6b]; rfl
        have k7c : (kind != 7) = true := by rw [bne, k7b]; rfl
        have k6d : decide (kind = 6) = false := decide_eq_false (fun h => hkk (Or.inl h))
        have k7d : decide (kind = 7) = false := decide_eq_false (fun h => hkk (Or.inr h))
        clear hv hv2 e hr0 hr1 hs0 hs1 hkk
        go_enter Try.func20, Try.ntmps20
        go_wp2_with (first | (go_at_call 39; (with_reducible refine (HV.out _ ?hq0).mono ?_); (case hq0 => exact HB0.out); rintro e w1 ⟨rfl, hb⟩; have HB1 := bt_ HB0 hb; have HR1 := am_ (blk_below HR8.out hb); have ha0 := am_ (pw_cell_below hb KA0.out); have ha1 := am_ (pw_cell_below hb KA1.out); have hb0 := pw_cell_below hb KB0.out; have hb1 := pw_cell_below hb KB1.out; have hk0 := am_ (pw_cell_below hb KK0.out); clear hb) | (go_at_call 39; (with_reducible refine (HV2.out _ ?hq1).mono ?_); (case hq1 => exact HB1.out); rintro e w2 ⟨rfl, hb⟩; have HB := bt_ HB1 hb; have HR9 := am_ (blk_below HR1.out hb); have hc0 := am_ (pw_cell_below hb ha0.out); have hc1 := am_ (pw_cell_below hb ha1.out); have hc2 := am_ (pw_cell_below hb hb0); have hc3 := am_ (pw_cell_below hb hb1); have hc4 := pw_cell_below hb hk0.out; have hcz0 : World.cell? w2 ⟨w.heap.size + 1 + 1 + 1, 0, none⟩ = some (.slice none 0 0) := (blk_cell HR9.out 0).trans rfl; have hcz1 : World.cell? w2 ⟨w.heap.size + 1 + 1 + 1, 1, none⟩ = some (.slice none 0 0) := (blk_cell HR9.out 1).trans rfl; have hfz0 := blk_frozen HR9.out 0; have hfz1 := blk_frozen HR9.out 1; clear hb hb0 hb1))
        have HT4 : Aside0 (((w2.setCell ⟨w.heap.size + 1 + 1 + 1, 0, none⟩ (.slice none 0 0)).setCell ⟨w.heap.size + 1 + 1 + 1, 1, none⟩ (.slice none 0 0)).heap[w.heap.size + 1 + 1 + 1]? = some (.cells #[.slice none 0 0, .slice none 0 0] 27 (0, 0))) := ⟨blk_put (blk_put (cs' := #[.slice none 0 0, .slice none 0 0]) HR9.out 0 _ rfl) 1 _ rfl⟩
        refine bodyPost_ret (results_ct rfl _ _ (w.heap.size + 1 + 1 + 1) 27 #[.slice none 0 0, .slice none 0 0] (0, 0) _ rfl HT4.out Try.underlying27 rfl (by kernel_rfl)) rfl ?_
        exact ⟨_, _, rfl, Kd.R_nil _ _ _ _ _, Kd.S_nil _ _ _ _ _, below_set (below_set HB.out HGE.out) HGE.out⟩
end Go.Proofs.Ytogamkblkoobkaa.Wk
end
section
namespace Go.Proofs.Ytogamkblkoobkaa.Can
open Go.RowKit Go.Proofs.Ytogamkblkoobkaa Go.Proofs.Ytogamkblkoobkaa.P Go.Proofs.Ytogamkblkoobkaa.Wk Go.Proofs.Ytogamkblkoobkaa.Lg Go.Proofs.Ytogamkblkoobkaa.Pl Go.Proofs.Ytogamkblkoobkaa.Mp Go.Proofs.Ytogamkblkoobkaa.Bf Go.Proofs.Ytogamkblkoobkaa.Mn Go.Proofs.YtogamkblkoobkaaW.PrintWords Go.Proofs.YtogamkblkoobkaaW.PrintLast Go.Proofs.YtogamkblkoobkaaW.PrintMore
set_option linter.unusedVariables false
set_option linter.unusedSimpArgs false
section
variable {a b : List Bool} {n m : List (List Int)}
def toF : List Int → List (Fin 3)
  | [] => []
  | c :: l => ⟨(letIdx c).toNat % 3, by omega⟩ :: toF l
theorem run_toF : ∀ (l : List Int) (x : Int), lets l = true → run a n (toF l) x = rdOf false a (runD n x l)
  | [], x, _ => rfl
  | c :: l, x, h => by
    rw [lets_cons] at h
    have hc := letIdx_range c
    have e : (((letIdx c).toNat % 3 : Nat) : Int) = letIdx c := by omega
    show run a n (toF l) (rd (rowOf n x) (((letIdx c).toNat % 3 : Nat) : Int)) = _
    rw [e, run_toF l _ h.2]
    rfl
end
end Go.Proofs.Ytogamkblkoobkaa.Can
end
section
namespace Go.Proofs.Ytogamkblkoobkaa.Can
open Go.RowKit Go.Proofs.Ytogamkblkoobkaa Go.Proofs.Ytogamkblkoobkaa.P Go.Proofs.Ytogamkblkoobkaa.Wk Go.Proofs.Ytogamkblkoobkaa.Lg Go.Proofs.Ytogamkblkoobkaa.Pl Go.Proofs.Ytogamkblkoobkaa.Mp Go.Proofs.Ytogamkblkoobkaa.Bf Go.Proofs.Ytogamkblkoobkaa.Mn Go.Proofs.YtogamkblkoobkaaW.PrintWords Go.Proofs.YtogamkblkoobkaaW.PrintLast Go.Proofs.YtogamkblkoobkaaW.PrintMore
set_option linter.unusedVariables false
set_option linter.unusedSimpArgs false
set_option linter.unusedSectionVars false
def cpl (L : Lan) : Lan := fun w => !L w
theorem cpl_inj {a b : Lan} (h : cpl a = cpl b) : a = b := funext fun w => by
  have h2 := congrFun h w
  unfold cpl at h2
  cases ha : a w <;> cases hb : b w <;> simp [ha, hb] at h2 ⊢
theorem lsucc_cpl (L : Lan) : (lsucc L).map cpl = lsucc (cpl L) := rfl
def flip (out : List Bool × List (List Int)) : List Bool × List (List Int) := (out.1.map (fun b => !b), out.2)
theorem IsCan.compl {L : Lan} {out : List Bool × List (List Int)} (h : IsCan L out) : IsCan (cpl L) (flip out) := by
  obtain ⟨R, hR, rfl⟩ := h
  have hn : R.Nodup := hR.nodup (by simp)
  have h2 := hR.map0 (dom := fun _ => True) (succ' := lsucc) (f := cpl) (fun _ _ _ _ => trivial) (fun x _ => lsucc_cpl x) trivial
  rw [dd_inj cpl R (fun a _ b _ h => cpl_inj h), dd_id hn] at h2
  refine ⟨_, h2, ?_⟩
  unfold flip outL
  refine Prod.ext ?_ ?_
  · show (R.map eps).map _ = (R.map cpl).map eps
    rw [List.map_map, List.map_map]
    rfl
  · show R.map _ = (R.map cpl).map _
    rw [List.map_map]
    refine List.map_congr_left fun X _ => ?_
    have hi : ∀ Y, (R.map cpl).idxOf (cpl Y) = R.idxOf Y := fun Y => idxOf_inj cpl R Y (fun b _ h => cpl_inj h)
    show (lsucc X).map (fun Y => (R.idxOf Y : Int)) = (lsucc (cpl X)).map (fun Y => ((R.map cpl).idxOf Y : Int))
    rw [← lsucc_cpl, List.map_map]
    refine List.map_congr_left fun Y _ => ?_
    show (R.idxOf Y : Int) = ((R.map cpl).idxOf (cpl Y) : Int)
    rw [hi]
theorem run_not {acc : List Bool} {nx : List (List Int)} (hf : Fits acc nx) : ∀ (w : List (Fin 3)) (q : Int), 0 ≤ q ∧ q < (acc.length : Int) → run (acc.map (fun b => !b)) nx w q = !run acc nx w q
  | [], q, hq => by
    obtain ⟨i, rfl⟩ : ∃ i : Nat, q = (i : Int) := ⟨q.toNat, by omega⟩
    have hi : i < acc.length := by omega
    show rdOf false _ _ = !rdOf false _ _
    rw [rdOf_get false acc i hi, rdOf_get false _ i (by simpa using hi), List.getElem_map]
  | k :: w, q, hq => by
    show run _ nx w _ = !run acc nx w _
    obtain ⟨h1, h2⟩ := hf.row q hq
    refine run_not hf w _ (h2 _ ?_)
    rw [rd_get _ k.val (by omega)]
    exact List.getElem_mem _
theorem lang_not {acc : List Bool} {nx : List (List Int)} (hf : Fits acc nx) {q : Int} (hq : 0 ≤ q ∧ q < (acc.length : Int)) : lang (acc.map (fun b => !b)) nx q = cpl (lang acc nx q) := funext fun w => run_not hf w q hq
theorem fits_not {acc : List Bool} {nx : List (List Int)} (hf : Fits acc nx) : Fits (acc.map (fun b => !b)) nx := ⟨by rw [List.length_map]; exact hf.len, fun q hq => by rw [List.length_map] at hq ⊢; exact hf.row q hq⟩
theorem min_not {acc : List Bool} {nx : List (List Int)} (hf : Fits acc nx) {st : Int} (hst : 0 ≤ st ∧ st < (acc.length : Int)) : minD (acc.map (fun b => !b)) nx st = flip (minD acc nx st) := by
  have h1 := (min_can hf hst).compl
  rw [← lang_not hf hst] at h1
  exact IsCan.det (min_can (fits_not hf) (by rw [List.length_map]; exact hst)) h1
def cmOf (acc : List Bool) (nx : List (List Int)) : List Bool × List (List Int) := flip (minOf acc nx)
theorem cmOf_len (a : List Bool) (n : List (List Int)) : (cmOf a n).1.length ≤ 40 ∧ (cmOf a n).2.length ≤ 40 ∧ ∀ r ∈ (cmOf a n).2, r.length = 3 := by
  unfold cmOf flip
  rw [List.length_map]
  exact minOf_len a n
end Go.Proofs.Ytogamkblkoobkaa.Can
end
section
namespace Go.Proofs.Ytogamkblkoobkaa.P
open Go.RowKit Go.Proofs.YtogamkblkoobkaaW.PrintWords Go.Proofs.YtogamkblkoobkaaW.PrintLast Go.Proofs.YtogamkblkoobkaaW.PrintMore
attribute [local go_sem] max2_int min2_int max_two min_two max_three min_three max_four min_four
set_option linter.unusedVariables false
set_option linter.unusedSimpArgs false
def impl_ComplementDfa.l0 : Nat → List Bool → Int → Int → List Bool → List (List Int) → Option (List Bool × (List (List Int)))
  | 0, _, _, _, _, _ => none
  | k + 1, x14, x15, x16, aw, aC => if x16 < x15 then (if 0 ≤ x16 then (if x16 < (x14.length : Int) then (if aw.length < 140737488355328 then (impl_ComplementDfa.l0 k x14 x15 (wrap64 (x16 + 1)) (aw ++ [!(rdOf false x14 x16)]) aC) else (none)) else (none)) else (none)) else ((impl_minimized.f aw aC 0).bind fun bt234 => (some (bt234.1, bt234.2)))
def impl_ComplementDfa.f (k : Nat) (l0_0 : List Bool) (l0_1 : List (List Int)) : Option (List Bool × (List (List Int))) := (impl_IsValidDfa.f l0_0 l0_1).bind fun az => (if az = true then (impl_ComplementDfa.l0 k l0_0 (l0_0.length : Int) 0 ([] : List Bool) l0_1) else (some (([] : List Bool), ([] : List (List Int)))))
theorem impl_ComplementDfa.mono_l : ∀ k, (∀ y0 y1 y2 y3 y4, LeO (impl_ComplementDfa.l0 k y0 y1 y2 y3 y4) (impl_ComplementDfa.l0 (k + 1) y0 y1 y2 y3 y4))
 | 0 => fun _ _ _ _ _ r h => by simp [impl_ComplementDfa.l0] at h
 | k + 1 => by
  have ih0 := impl_ComplementDfa.mono_l k
  ·intro y0 y1 y2 y3 y4
   unfold impl_ComplementDfa.l0
   repeat' first
   | (with_reducible exact ih0 _ _ _ _ _)
   | (with_reducible exact LeO.refl _)
   | (with_reducible exact LeO.none _)
   | (with_reducible refine LeO.ite ?_ ?_)
   | (with_reducible refine LeO.bind ?_ (fun _ => ?_))
   | exact ih0 _ _ _ _ _
   | exact LeO.none _
   | refine LeO.ite ?_ ?_
   | refine LeO.bind ?_ (fun _ => ?_)
theorem impl_ComplementDfa.mono : ∀ a0 a1 k, LeO (impl_ComplementDfa.f k a0 a1) (impl_ComplementDfa.f (k + 1) a0 a1) := by
 intro a0 a1 k
 have ih0 := impl_ComplementDfa.mono_l k
 unfold impl_ComplementDfa.f
 repeat' first
   | (with_reducible exact ih0 _ _ _ _ _)
   | (with_reducible exact LeO.refl _)
   | (with_reducible exact LeO.none _)
   | (with_reducible refine LeO.ite ?_ ?_)
   | (with_reducible refine LeO.bind ?_ (fun _ => ?_))
   | exact ih0 _ _ _ _ _
   | exact LeO.none _
   | refine LeO.ite ?_ ?_
   | refine LeO.bind ?_ (fun _ => ?_)
set_option maxHeartbeats 8000000 in
set_option maxRecDepth 100000 in
theorem impl_ComplementDfa.calls (k : Nat) (A0_0 : Option Addr) (c0_0 : Nat) (l0_0 : List Bool) (A0_1 : Option Addr) (c0_1 : Nat) (l0_1 : List (List Int)) (r1 : List Bool) (r2 : List (List Int)) (w : World) (hr0_0 : Kd.C Kd.bool w A0_0 l0_0.length l0_0) (hc0_0 : l0_0.length ≤ c0_0) (hr0_1 : Kd.C (Kd.slice 3 (Kd.int .i64)) w A0_1 l0_1.length l0_1) (hc0_1 : l0_1.length ≤ c0_1) (h : impl_ComplementDfa.f k l0_0 l0_1 = some (r1, r2)) :
  Calls Try.prog 15 #[.agg #[.slice A0_0 l0_0.length c0_0, .slice A0_1 l0_1.length c0_1]] w fun e w' => ∃ v0_ v1_ : Value, e = .returned (.agg #[v0_, v1_]) ∧ Kd.R Kd.bool 4 w' w.heap.size (fun _ => True) v0_ r1 ∧ Kd.S (Kd.slice 3 (Kd.int .i64)) 67 w' w.heap.size (fun _ => True) v1_ r2 ∧ Below w.heap.size w w' := by
 have hu27 := Try.underlying27
 have aD := am_ hr0_0
 have aN := am_ hc0_0
 clear hr0_0 hc0_0
 have aE := am_ hr0_1
 have aG := am_ hc0_1
 clear hr0_1 hc0_1
 have HB := am_ (Below.refl w.heap.size w)
 have H : ((impl_IsValidDfa.f l0_0 l0_1).bind fun az => (if az = true then (impl_ComplementDfa.l0 k l0_0 (l0_0.length : Int) 0 ([] : List Bool) l0_1) else (some (([] : List Bool), ([] : List (List Int)))))) = some (r1, r2) := h
 clear h
 replace H := Option.bind_eq_some_iff.mp H
 obtain ⟨az, A20, H⟩ := H
 have A2 := am_ A20
 clear A20
 by_cases c3 : az = true
 ·subst c3
  have H1 : (impl_ComplementDfa.l0 k l0_0 (l0_0.length : Int) 0 ([] : List Bool) l0_1) = some (r1, r2) := by rw [if_pos rfl] at H; exact H
  clear H
  have H := H1
  clear H1
  have H' := am_ H
  clear H
  go_enter Try.func15, Try.ntmps15
  go_wp2_with (first | ((with_reducible refine gate_dst (N := 1) rfl ?_); refine box_event ?hg (N := 1) ?hd (cs := #[.slice A0_0 l0_0.length c0_0, .slice A0_1 l0_1.length c0_1]) (t := 27) ?hr ?_; (case hd => rfl); (case hg => rfl); (case hr => first | (go_simp; done) | (go_simp; rfl)); intro ak hg w4 hbox hb; replace aa := am_ (hbox); replace bn := am_ ((by rw [hg]; exact (below_size (b0_ HB.out)) : w.heap.size ≤ ak)); replace af := am_ ((by rw [hg]; exact (below_size (b0_ HB.out)) : w.heap.size ≤ ak)); replace HB := am_ (below_step (b0_ HB.out) hb); clear hb hbox hg) | ((with_reducible refine gate_dst (N := 2) rfl ?_); refine box_event ?hg (N := 2) ?hd (cs := #[.slice none 0 0, .slice none 0 0]) (t := 27) ?hr ?_; (case hd => rfl); (case hg => rfl); (case hr => first | (go_simp; done) | (go_simp; rfl)); intro ag hg w5 hbox hb; have n0_ := am_ (blk_below (rb_ aa.out) hb); have n1_ := am_ (below_step (b1_ HB.out af.out) hb); have n2_ := am_ (hbox); have n3_ := am_ ((by rw [hg]; exact (below_size (b1_ HB.out af.out)) : w.heap.size ≤ ag)); have n4_ := am_ ((by rw [hg]; exact (below_size (b1_ HB.out af.out)) : w.heap.size ≤ ag)); have n5_ := am_ ((by rw [hg]; exact Nat.ne_of_lt (blk_lt (rb_ aa.out)) : ak ≠ ag)); have n6_ := am_ ((by rw [hg]; exact Nat.ne_of_gt (blk_lt (rb_ aa.out)) : ag ≠ ak)); clear aa; clear HB; have aa := n0_; have HB := n1_; have ab := n2_; have bo := n3_; have aj := n4_; have ap := n5_; have aq := n6_; clear n0_ n1_ n2_ n3_ n4_ n5_ n6_; clear hb hbox hg; have cn := ap.out; have co := aq.out; have bc := ck_ (v := (.slice A0_0 l0_0.length c0_0)) aa 0 rfl; have bd := ck_ (v := (.slice A0_1 l0_1.length c0_1)) aa 1 rfl; have be := blk_frozen aa.out 0; have bf := blk_frozen aa.out 1) | ((with_reducible refine gate_callee (f := 39) rfl ?_); refine gL_ (some 7) Try.func39 #[.agg #[.slice A0_0 l0_0.length c0_0, .slice A0_1 l0_1.length c0_1]] ?_; (with_reducible refine (impl_IsValidDfa.calls _ _ l0_0 _ _ l0_1 true _ ?side1 ?side2 ?side3 ?side4 A2.out).mono ?_); (case side1 => exact rc_ (Kd.C_below aD.out HB.out)); (case side2 => exact aN.out); (case side3 => exact rc_ (Kd.C_below aE.out HB.out)); (case side4 => exact aG.out); rintro e w8 ⟨rfl, hb⟩; refine ⟨_, rfl, ?_⟩; have n0_ := am_ (blk_below (rb_ aa.out) hb); have n1_ := am_ (blk_below (rb_ ab.out) hb); have n2_ := am_ (below_step (b2_ HB.out af.out aj.out) hb); clear aa; clear ab; clear HB; have aa := n0_; have ab := n1_; have HB := n2_; clear n0_ n1_ n2_; (try clear hb); (try clear hb2); (try clear hk); (try clear hi); have bg := ck_ (v := (.slice A0_0 l0_0.length c0_0)) aa 0 rfl; have bh := ck_ (v := (.slice A0_1 l0_1.length c0_1)) aa 1 rfl; have bi := blk_frozen aa.out 0; have bj := blk_frozen aa.out 1) | ((with_reducible refine gate_dst (N := 3) rfl ?_); refine box_event ?hg (N := 3) ?hd (cs := #[.slice none 0 0, .slice none 0 0]) (t := 27) ?hr ?_; (case hd => rfl); (case hg => rfl); (case hr => first | (go_simp; done) | (go_simp; rfl)); intro ao hg w10 hbox hb; have n0_ := am_ (blk_below (rb_ aa.out) hb); have n1_ := am_ (blk_below (rb_ ab.out) hb); have n2_ := am_ (below_step (b2_ HB.out af.out aj.out) hb); have n3_ := am_ (hbox); have n4_ := am_ ((by rw [hg]; exact (below_size (b2_ HB.out af.out aj.out)) : w.heap.size ≤ ao)); have n5_ := am_ ((by rw [hg]; exact (below_size (b2_ HB.out af.out aj.out)) : w.heap.size ≤ ao)); have n6_ := am_ ((by rw [hg]; exact Nat.ne_of_lt (blk_lt (rb_ aa.out)) : ak ≠ ao)); have n7_ := am_ ((by rw [hg]; exact Nat.ne_of_gt (blk_lt (rb_ aa.out)) : ao ≠ ak)); have n8_ := am_ ((by rw [hg]; exact Nat.ne_of_lt (blk_lt (rb_ ab.out)) : ag ≠ ao)); have n9_ := am_ ((by rw [hg]; exact Nat.ne_of_gt (blk_lt (rb_ ab.out)) : ao ≠ ag)); clear aa; clear ab; clear HB; have aa := n0_; have ab := n1_; have HB := n2_; have ad := n3_; have bW := n4_; have ar := n5_; have am := n6_; have au := n7_; have an := n8_; have av := n9_; clear n0_ n1_ n2_ n3_ n4_ n5_ n6_ n7_ n8_ n9_; clear hb hbox hg; have bX := au.out; have bY := am.out; have bZ := av.out; have ca := an.out; have aU := ck_ (v := (.slice none 0 0)) ad 0 rfl; have aV := ck_ (v := (.slice none 0 0)) ad 1 rfl; have aW := blk_frozen ad.out 0; have aX := blk_frozen ad.out 1; have aY := ck_ (v := (.slice A0_0 l0_0.length c0_0)) aa 0 rfl; have aZ := ck_ (v := (.slice A0_1 l0_1.length c0_1)) aa 1 rfl; have ba := blk_frozen aa.out 0; have bb := blk_frozen aa.out 1))
  go_loopg [16] k (fun kq v16 w' => ∃ (ah : Int) (ai : List Bool) (al : Value), v16 = .int .i64 ah ∧ Aside0 (impl_ComplementDfa.l0 kq l0_0 (l0_0.length : Int) ah ai l0_1 = some (r1, r2)) ∧ Aside0 (kq ≤ k) ∧ Aside0 (Kd.R Kd.bool 4 w' w.heap.size (fun _ => True) al ai) ∧ Aside0 (w'.heap[ak]? = some (.cells #[(.slice A0_0 l0_0.length c0_0), (.slice A0_1 l0_1.length c0_1)] 27 (0, 0))) ∧ Aside0 (w'.heap[ag]? = some (.cells #[(.slice none 0 0), (.slice none 0 0)] 27 (0, 0))) ∧ Aside0 (w'.heap[ao]? = some (.cells #[al, (.slice A0_1 l0_1.length c0_1)] 27 (0, 0))) ∧ Aside0 (Below w.heap.size w w'))
  case atStart => exact ⟨(0), (([] : List Bool)), (.slice none 0 0), (by first | rfl | (simp; done) | (simp [*]; done)), H', ⟨Nat.le_refl _⟩, ⟨by first | exact Kd.R_nil _ _ _ _ _ | exact Kd.N_nil _ _ _ _ _ | exact Kd.V_nil _ _ _ _ _ | exact Kd.Q_nil _ _ _ _ _ | exact Kd.S_nil _ _ _ _ _⟩, ⟨by refine rb_ ?_; refine blk_far ?_ am.out _; refine rb_ ?_; refine blk_far ?_ am.out _; refine rb_ ?_; exact aa.out⟩, ⟨by refine rb_ ?_; refine blk_far ?_ an.out _; refine rb_ ?_; refine blk_far ?_ an.out _; refine rb_ ?_; exact ab.out⟩, ⟨by refine rb_ ?_; refine blk_put (cs := #[.slice none 0 0, .slice none 0 0]) ?_ 1 _ rfl; refine rb_ ?_; refine blk_put (cs := #[.slice none 0 0, .slice none 0 0]) ?_ 0 _ rfl; refine rb_ ?_; exact ad.out⟩, ⟨by repeat (first | (with_reducible first | exact HB.out | apply below_alloc | apply pw_below_drewN | apply below_drew1 | refine below_set ?_ af.out | refine below_set ?_ aj.out | refine below_set ?_ ar.out) | exact HB.out)⟩⟩
  case round =>
   clear H'
   try clear c1
   try clear p2
   try clear c3
   try clear c6
   try clear c11
   try clear c12
   try clear aU
   try clear aV
   try clear aY
   try clear aZ
   try clear bc
   try clear bd
   try clear bg
   try clear bh
   try clear aW
   try clear aX
   try clear ba
   try clear bb
   try clear be
   try clear bf
   try clear bi
   try clear bj
   obtain ⟨ah, ai, al, rfl, HA, HK1, ae, aa, ab, ad, HB⟩ := hrel
   cases gk with
   | zero => exact absurd HA.out (by simp [impl_ComplementDfa.l0])
   | succ k1 =>
    have H := HA.out
    clear HA
    simp only [impl_ComplementDfa.l0] at H
    by_cases c15 : ah < (l0_0.length : Int)
    ·rw [if_pos c15] at H
     have c15b0 : decide (ah < (l0_0.length : Int)) = true := decide_eq_true c15
     clear c15
     by_cases c16 : 0 ≤ ah
     ·rw [if_pos c16] at H
      have c16b0 : decide (0 ≤ ah) = true := decide_eq_true c16
      clear c16
      by_cases c17 : ah < (l0_0.length : Int)
      ·rw [if_pos c17] at H
       have c17b0 : decide (ah < (l0_0.length : Int)) = true := decide_eq_true c17
       clear c17
       by_cases c18 : ai.length < 140737488355328
       ·rw [if_pos c18] at H
        have LMc18 := am_ c18
        clear c18
        obtain ⟨aH, hy231⟩ : ∃ y_ : List Bool, y_ = (ai ++ [!(rdOf false l0_0 ah)]) := ⟨_, rfl⟩
        replace H : (impl_ComplementDfa.l0 k1 l0_0 (l0_0.length : Int) (wrap64 (ah + 1)) aH l0_1) = some (r1, r2) := by first | (rw [hy231]; with_reducible exact H) | (have H2_ := (Option.bind_some _ _).symm.trans H; rw [hy231]; with_reducible exact H2_) | (have H2_ := (Option.bind_some _ _).symm.trans H; with_reducible exact H2_) | with_reducible exact H | (rw [hy231]; exact H) | exact H
        have bp := am_ hy231
        clear hy231
        have H' := am_ H
        clear H
        have p230 : 0 ≤ (ah : Int) := of_decide_eq_true ah_
        have q230 : ah < (l0_0.length : Int) := of_decide_eq_true ah_
        obtain ⟨bq, e230, ax⟩ := Kd.at_bool aD.out ah p230 q230
        cases e230
        replace ax := (HB.out.cell (World.block_lt_of_cell? w _ ax)).trans ax
        replace p230 := eq_true p230
        replace q230 := eq_true q230
        have cb := au.out
        have cc := am.out
        have cd := av.out
        have ce := an.out
        have bx := ck_ (v := (al)) ad 0 rfl
        have bz := ck_ (v := (.slice A0_1 l0_1.length c0_1)) ad 1 rfl
        have bA := blk_frozen ad.out 0
        have bB := blk_frozen ad.out 1
        go_wp2_with (first | ((with_reducible refine gate_builtin (b := .append) (xs := #[.tmp 21, .tmp 24]) rfl ?_); at_builtin; refine Kd.R_append Kd.bool (w0 := w) w.heap.size rfl (.tmp 21) (.tmp 24) 22 4 (.bool false) 1 rfl Try.underlying22 info4 rfl (by decide) (by omega) al ai (!(rdOf false l0_0 ah)) [.bool (!(rdOf false l0_0 ah))] (fun _ => True) (fun _ => False) rfl rfl ?aP (fun _ hk => hk.elim) ?aF ?aO ?aB ?aS ?aL ?_; (case aP => exact rfl); (case aB => exact (b3_ HB.out af.out aj.out ar.out)); (case aF => exact (fun _ _ => trivial)); (case aO => exact (rr_ ae.out)); (case aS => exact (below_size (b3_ HB.out af.out aj.out ar.out))); (case aL => have := LMc18.out; omega); intro cp w22 ho hb hg hat; rw [← bp.out] at ho; have n0_ := am_ (blk_grown (g := ak) (o := .cells #[.slice (some bq) l0_0.length c0_0, .slice A0_1 l0_1.length c0_1] 27 (0, 0)) (rb_ aa.out) hg (Kd.R_ne ae.out aa.out (by decide))); have n1_ := am_ (blk_grown (g := ag) (o := .cells #[.slice none 0 0, .slice none 0 0] 27 (0, 0)) (rb_ ab.out) hg (Kd.R_ne ae.out ab.out (by decide))); have n2_ := am_ (blk_grown (g := ao) (o := .cells #[al, .slice A0_1 l0_1.length c0_1] 27 (0, 0)) (rb_ ad.out) hg (Kd.R_ne ae.out ad.out (by decide))); have n3_ := am_ (hb); have n4_ := am_ (ho); clear aa; clear ab; clear ad; clear HB; clear ae; have aa := n0_; have ab := n1_; have ad := n2_; have HB := n3_; have aQ := n4_; clear n0_ n1_ n2_ n3_ n4_; clear ho hb hg hat; obtain ⟨bk, bl, br⟩ := Kd.R_slice aQ.out; subst br; have bC := ck_ (v := (al)) ad 0 rfl; have bD := ck_ (v := (.slice A0_1 l0_1.length c0_1)) ad 1 rfl; have bE := blk_frozen ad.out 0; have bF := blk_frozen ad.out 1))
        go_roundg k1
        case measure => have := HK1.out; omega
        case rel => exact ⟨(wrap64 (ah + 1)), (aH), (.slice bk aH.length bl), (by first | rfl | (simp; done) | (simp [*]; done)), H', ⟨by have := HK1.out; omega⟩, ⟨by refine rr_ ?_; exact Kd.R_mono (Kd.R_far (p := ⟨ao, 0, none⟩) (Kd.R_types aQ.out ad.out (by decide)) (fun _ hk => hk.2) (.slice bk aH.length bl)) (fun _ hk => trivial)⟩, ⟨by refine rb_ ?_; refine blk_far ?_ am.out _; refine rb_ ?_; exact aa.out⟩, ⟨by refine rb_ ?_; refine blk_far ?_ an.out _; refine rb_ ?_; exact ab.out⟩, ⟨by refine rb_ ?_; refine blk_put (cs := #[al, .slice A0_1 l0_1.length c0_1]) ?_ 0 _ rfl; refine rb_ ?_; exact ad.out⟩, ⟨by repeat (first | (with_reducible first | exact HB.out | apply below_alloc | apply pw_below_drewN | apply below_drew1 | refine below_set ?_ af.out | refine below_set ?_ aj.out | refine below_set ?_ ar.out) | exact HB.out)⟩⟩
       ·rw [if_neg c18] at H
        exact absurd H (by simp)
      ·rw [if_neg c17] at H
       exact absurd H (by simp)
     ·rw [if_neg c16] at H
      exact absurd H (by simp)
    ·rw [if_neg c15] at H
     have c15b0 : decide (ah < (l0_0.length : Int)) = false := decide_eq_false c15
     clear c15
     replace H := Option.bind_eq_some_iff.mp H
     obtain ⟨⟨ay, aA⟩, bm, H⟩ := H
     replace H : (some (ay, aA)) = some (r1, r2) := H
     have A25 := am_ bm
     clear bm
     simp only [Option.some.injEq, Prod.mk.injEq] at H
     obtain ⟨rfl, rfl⟩ := H
     have cf := au.out
     have cg := am.out
     have ch := av.out
     have ci := an.out
     have bG := ck_ (v := (al)) ad 0 rfl
     have bH := ck_ (v := (.slice A0_1 l0_1.length c0_1)) ad 1 rfl
     have bI := blk_frozen ad.out 0
     have bJ := blk_frozen ad.out 1
     obtain ⟨bs, bt, bu⟩ := Kd.R_slice ae.out
     subst bu
     go_wp2_with (first | ((with_reducible refine gate_callee (f := 56) rfl ?_); refine gL_ (some 29) Try.func56 #[.agg #[.slice bs ai.length bt, .slice A0_1 l0_1.length c0_1], .int .i64 0] ?_; (with_reducible refine (impl_minimized.calls _ _ ai _ _ l0_1 0 ay aA _ ?side1 ?side2 ?side3 ?side4 A25.out).mono ?_); (case side1 => exact rc_ ((Kd.R_reads' ae.out).2.2)); (case side2 => exact (Kd.R_reads' ae.out).2.1); (case side3 => exact rc_ (Kd.C_below aE.out HB.out)); (case side4 => exact aG.out); rintro e w30 ⟨cq, cr, rfl, ho0, ho1, hb⟩; refine ⟨_, rfl, ?_⟩; have n0_ := am_ (Kd.R_elder' (rr_ ae.out) (Kd.R_base ho0) hb); have n1_ := am_ (Kd.R_lower (Kd.R_new' ho0 (Kd.R_lt (rr_ ae.out))) (below_size (b3_ HB.out af.out aj.out ar.out))); have n2_ := am_ (Kd.S_lower ho1 (below_size (b3_ HB.out af.out aj.out ar.out))); have n3_ := am_ (blk_below (rb_ aa.out) hb); have n4_ := am_ (blk_below (rb_ ab.out) hb); have n5_ := am_ (blk_below (rb_ ad.out) hb); have n6_ := am_ (below_step (b3_ HB.out af.out aj.out ar.out) hb); clear ae; clear aa; clear ab; clear ad; clear HB; have ae := n0_; have aR := n1_; have aT := n2_; have aa := n3_; have ab := n4_; have ad := n5_; have HB := n6_; clear n0_ n1_ n2_ n3_ n4_ n5_ n6_; (try clear hb); (try clear hb2); (try clear hk); (try clear hi); (try clear ho0); (try clear ho1); obtain ⟨aI, aJ, bv⟩ := Kd.R_slice aR.out; subst bv; have cj := aq.out; have ck := ap.out; have bK := ck_ (v := (.slice none 0 0)) ab 0 rfl; have bL := ck_ (v := (.slice none 0 0)) ab 1 rfl; have bM := blk_frozen ab.out 0; have bN := blk_frozen ab.out 1; obtain ⟨aK, aM, bw⟩ := Kd.S_slice aT.out; subst bw))
     refine bodyPost_ret (results_cell_row rfl _ _ ag 27 #[.slice aI ay.length aJ, .slice aK aA.length aM] (0, 0) _ rfl (by refine rb_ ?_; refine blk_put (cs := #[.slice aI ay.length aJ, .slice none 0 0]) ?_ 1 _ rfl; refine rb_ ?_; refine blk_put (cs := #[.slice none 0 0, .slice none 0 0]) ?_ 0 _ rfl; refine rb_ ?_; exact ab.out) Try.underlying27 rfl (by kernel_rfl)) rfl ?_
     exact ⟨_, _, by first | rfl | (simp [errW_none, errW_some] <;> rfl) | (simp [*, errW_none, errW_some] <;> rfl), by refine rr_ ?_; exact Kd.R_mono (Kd.R_far (p := ⟨ag, 1, none⟩) (Kd.R_far (p := ⟨ag, 0, none⟩) (Kd.R_types aR.out ab.out (by decide)) (fun _ hk => hk.2) (.slice aI ay.length aJ)) (fun _ hk => hk.2) (.slice aK aA.length aM)) (fun _ hk => trivial), by refine rs_ ?_; exact Kd.S_mono (Kd.S_far (p := ⟨ag, 1, none⟩) (Kd.S_far (p := ⟨ag, 0, none⟩) (Kd.S_types aT.out ab.out (by decide)) (fun _ hk => hk.2) (.slice aI ay.length aJ)) (fun _ hk => hk.2) (.slice aK aA.length aM)) (fun _ hk => trivial), by repeat (first | (with_reducible first | exact HB.out | apply below_alloc | apply pw_below_drewN | apply below_drew1 | refine below_set ?_ af.out | refine below_set ?_ aj.out | refine below_set ?_ ar.out) | exact HB.out)⟩
 ·replace c3 := Bool.eq_false_iff.mpr c3
  subst c3
  have H1 : (some (([] : List Bool), ([] : List (List Int)))) = some (r1, r2) := by rw [if_neg (show ¬ (false = true) by decide)] at H; exact H
  clear H
  have H := H1
  clear H1
  simp only [Option.some.injEq, Prod.mk.injEq] at H
  obtain ⟨rfl, rfl⟩ := H
  go_enter Try.func15, Try.ntmps15
  go_wp2_with (first | ((with_reducible refine gate_dst (N := 1) rfl ?_); refine box_event ?hg (N := 1) ?hd (cs := #[.slice A0_0 l0_0.length c0_0, .slice A0_1 l0_1.length c0_1]) (t := 27) ?hr ?_; (case hd => rfl); (case hg => rfl); (case hr => first | (go_simp; done) | (go_simp; rfl)); intro ak hg w35 hbox hb; replace aa := am_ (hbox); replace bn := am_ ((by rw [hg]; exact (below_size (b0_ HB.out)) : w.heap.size ≤ ak)); replace af := am_ ((by rw [hg]; exact (below_size (b0_ HB.out)) : w.heap.size ≤ ak)); replace HB := am_ (below_step (b0_ HB.out) hb); clear hb hbox hg) | ((with_reducible refine gate_dst (N := 2) rfl ?_); refine box_event ?hg (N := 2) ?hd (cs := #[.slice none 0 0, .slice none 0 0]) (t := 27) ?hr ?_; (case hd => rfl); (case hg => rfl); (case hr => first | (go_simp; done) | (go_simp; rfl)); intro ag hg w36 hbox hb; have n0_ := am_ (blk_below (rb_ aa.out) hb); have n1_ := am_ (below_step (b1_ HB.out af.out) hb); have n2_ := am_ (hbox); have n3_ := am_ ((by rw [hg]; exact (below_size (b1_ HB.out af.out)) : w.heap.size ≤ ag)); have n4_ := am_ ((by rw [hg]; exact (below_size (b1_ HB.out af.out)) : w.heap.size ≤ ag)); have n5_ := am_ ((by rw [hg]; exact Nat.ne_of_lt (blk_lt (rb_ aa.out)) : ak ≠ ag)); have n6_ := am_ ((by rw [hg]; exact Nat.ne_of_gt (blk_lt (rb_ aa.out)) : ag ≠ ak)); clear aa; clear HB; have aa := n0_; have HB := n1_; have ab := n2_; have bo := n3_; have aj := n4_; have ap := n5_; have aq := n6_; clear n0_ n1_ n2_ n3_ n4_ n5_ n6_; clear hb hbox hg; have cl := ap.out; have cm := aq.out; have bO := ck_ (v := (.slice A0_0 l0_0.length c0_0)) aa 0 rfl; have bP := ck_ (v := (.slice A0_1 l0_1.length c0_1)) aa 1 rfl; have bQ := blk_frozen aa.out 0; have bR := blk_frozen aa.out 1) | ((with_reducible refine gate_callee (f := 39) rfl ?_); refine gL_ (some 7) Try.func39 #[.agg #[.slice A0_0 l0_0.length c0_0, .slice A0_1 l0_1.length c0_1]] ?_; (with_reducible refine (impl_IsValidDfa.calls _ _ l0_0 _ _ l0_1 false _ ?side1 ?side2 ?side3 ?side4 A2.out).mono ?_); (case side1 => exact rc_ (Kd.C_below aD.out HB.out)); (case side2 => exact aN.out); (case side3 => exact rc_ (Kd.C_below aE.out HB.out)); (case side4 => exact aG.out); rintro e w39 ⟨rfl, hb⟩; refine ⟨_, rfl, ?_⟩; have n0_ := am_ (blk_below (rb_ aa.out) hb); have n1_ := am_ (blk_below (rb_ ab.out) hb); have n2_ := am_ (below_step (b2_ HB.out af.out aj.out) hb); clear aa; clear ab; clear HB; have aa := n0_; have ab := n1_; have HB := n2_; clear n0_ n1_ n2_; (try clear hb); (try clear hb2); (try clear hk); (try clear hi); have bS := ck_ (v := (.slice none 0 0)) ab 0 rfl; have bT := ck_ (v := (.slice none 0 0)) ab 1 rfl; have bU := blk_frozen ab.out 0; have bV := blk_frozen ab.out 1))
  refine bodyPost_ret (results_cell_row rfl _ _ ag 27 #[.slice none 0 0, .slice none 0 0] (0, 0) _ rfl (by refine rb_ ?_; refine blk_put (cs := #[.slice none 0 0, .slice none 0 0]) ?_ 1 _ rfl; refine rb_ ?_; refine blk_put (cs := #[.slice none 0 0, .slice none 0 0]) ?_ 0 _ rfl; refine rb_ ?_; exact ab.out) Try.underlying27 rfl (by kernel_rfl)) rfl ?_
  exact ⟨_, _, by first | rfl | (simp [errW_none, errW_some] <;> rfl) | (simp [*, errW_none, errW_some] <;> rfl), by first | exact Kd.R_nil _ _ _ _ _ | exact Kd.N_nil _ _ _ _ _ | exact Kd.V_nil _ _ _ _ _ | exact Kd.Q_nil _ _ _ _ _ | exact Kd.S_nil _ _ _ _ _, by first | exact Kd.S_nil _ _ _ _ _ | exact Kd.N_nil _ _ _ _ _ | exact Kd.V_nil _ _ _ _ _ | exact Kd.Q_nil _ _ _ _ _ | exact Kd.R_nil _ _ _ _ _, by repeat (first | (with_reducible first | exact HB.out | apply below_alloc | apply pw_below_drewN | apply below_drew1 | refine below_set ?_ af.out | refine below_set ?_ aj.out) | exact HB.out)⟩
end Go.Proofs.Ytogamkblkoobkaa.P
end
section
namespace Go.Proofs.Ytogamkblkoobkaa.P
open Go.RowKit Go.Proofs.YtogamkblkoobkaaW.PrintWords Go.Proofs.YtogamkblkoobkaaW.PrintLast Go.Proofs.YtogamkblkoobkaaW.PrintMore
attribute [local go_sem] max2_int min2_int max_two min_two max_three min_three max_four min_four
set_option linter.unusedVariables false
set_option linter.unusedSimpArgs false
def spec_ComplementDfa.l0 : Nat → Int → List Bool → List (List Int) → Option (List Bool × (List (List Int)))
  | 0, _, _, _ => none
  | k + 1, x4, ax, aE => if x4 < (ax.length : Int) then (if 0 ≤ x4 then (spec_ComplementDfa.l0 k (wrap64 (x4 + 1)) (ax.set (x4 : Int).toNat (!(rdOf false ax x4))) aE) else (none)) else (some (ax, aE))
def spec_ComplementDfa.f (k : Nat) (l0_0 : List Bool) (l0_1 : List (List Int)) : Option (List Bool × (List (List Int))) := (spec_MinimizeDfa.f k l0_0 l0_1).bind fun bt190 => (spec_ComplementDfa.l0 k 0 bt190.1 bt190.2)
theorem spec_ComplementDfa.mono_l : ∀ k, (∀ y0 y1 y2, LeO (spec_ComplementDfa.l0 k y0 y1 y2) (spec_ComplementDfa.l0 (k + 1) y0 y1 y2))
 | 0 => fun _ _ _ r h => by simp [spec_ComplementDfa.l0] at h
 | k + 1 => by
  have ih0 := spec_ComplementDfa.mono_l k
  ·intro y0 y1 y2
   unfold spec_ComplementDfa.l0
   repeat' first
   | (with_reducible exact ih0 _ _ _)
   | (with_reducible exact spec_MinimizeDfa.mono _ _ _)
   | (with_reducible exact LeO.refl _)
   | (with_reducible exact LeO.none _)
   | (with_reducible refine LeO.ite ?_ ?_)
   | (with_reducible refine LeO.bind ?_ (fun _ => ?_))
   | exact ih0 _ _ _
   | exact spec_MinimizeDfa.mono _ _ _
   | exact LeO.none _
   | refine LeO.ite ?_ ?_
   | refine LeO.bind ?_ (fun _ => ?_)
theorem spec_ComplementDfa.mono : ∀ a0 a1 k, LeO (spec_ComplementDfa.f k a0 a1) (spec_ComplementDfa.f (k + 1) a0 a1) := by
 intro a0 a1 k
 have ih0 := spec_ComplementDfa.mono_l k
 unfold spec_ComplementDfa.f
 repeat' first
   | (with_reducible exact ih0 _ _ _)
   | (with_reducible exact spec_MinimizeDfa.mono _ _ _)
   | (with_reducible exact LeO.refl _)
   | (with_reducible exact LeO.none _)
   | (with_reducible refine LeO.ite ?_ ?_)
   | (with_reducible refine LeO.bind ?_ (fun _ => ?_))
   | exact ih0 _ _ _
   | exact spec_MinimizeDfa.mono _ _ _
   | exact LeO.none _
   | refine LeO.ite ?_ ?_
   | refine LeO.bind ?_ (fun _ => ?_)
def spec_ComplementDfa.T5 : Bool × List (List Nat × List Nat) := (true, [([], []), ([0], [0]), ([], []), ([], []), ([3], [3]), ([], []), ([4, 5], [4, 5]), ([6], [6]), ([7], [7]), ([1, 2, 0, 1, 2, 3, 4, 5, 6, 7, 8], [1, 2]), ([9, 8, 0, 1, 2, 3, 4, 5, 6, 7, 8], [8, 9])])
def spec_ComplementDfa.B5 : List Nat := [0, 1, 0, 0, 8, 0, 56, 120, 248, 511, 1023]
theorem spec_ComplementDfa.tab5 : rtab .any (opsOf Try.f13 5) = spec_ComplementDfa.T5 := by kernel_rfl
theorem spec_ComplementDfa.bits5 : waitsOk spec_ComplementDfa.T5.2 spec_ComplementDfa.B5 = true := by kernel_rfl
set_option maxHeartbeats 8000000 in
set_option maxRecDepth 100000 in
theorem spec_ComplementDfa.calls (k : Nat) (A0_0 : Option Addr) (c0_0 : Nat) (l0_0 : List Bool) (A0_1 : Option Addr) (c0_1 : Nat) (l0_1 : List (List Int)) (r1 : List Bool) (r2 : List (List Int)) (w : World) (hr0_0 : Kd.C Kd.bool w A0_0 l0_0.length l0_0) (hc0_0 : l0_0.length ≤ c0_0) (hr0_1 : Kd.C (Kd.slice 3 (Kd.int .i64)) w A0_1 l0_1.length l0_1) (hc0_1 : l0_1.length ≤ c0_1) (h : spec_ComplementDfa.f k l0_0 l0_1 = some (r1, r2)) :
  Calls Try.prog 13 #[.agg #[.slice A0_0 l0_0.length c0_0, .slice A0_1 l0_1.length c0_1]] w fun e w' => ∃ v0_ v1_ : Value, e = .returned (.agg #[v0_, v1_]) ∧ Kd.R Kd.bool 4 w' w.heap.size (fun _ => True) v0_ r1 ∧ Kd.S (Kd.slice 3 (Kd.int .i64)) 67 w' w.heap.size (fun _ => True) v1_ r2 ∧ Below w.heap.size w w' := by
 have hu27 := Try.underlying27
 have aV := am_ hr0_0
 have aW := am_ hc0_0
 clear hr0_0 hc0_0
 have aX := am_ hr0_1
 have aY := am_ hc0_1
 clear hr0_1 hc0_1
 have HB := am_ (Below.refl w.heap.size w)
 have H : ((spec_MinimizeDfa.f k l0_0 l0_1).bind fun bt190 => (spec_ComplementDfa.l0 k 0 bt190.1 bt190.2)) = some (r1, r2) := h
 clear h
 replace H := Option.bind_eq_some_iff.mp H
 obtain ⟨⟨ay, ak⟩, A20, H⟩ := H
 replace H : (spec_ComplementDfa.l0 k 0 ay ak) = some (r1, r2) := H
 have A2 := am_ A20
 clear A20
 have H' := am_ H
 clear H
 go_enter Try.func13, Try.ntmps13
 go_wp2_with (first | ((with_reducible refine gate_dst (N := 1) rfl ?_); refine box_event ?hg (N := 1) ?hd (cs := #[.slice A0_0 l0_0.length c0_0, .slice A0_1 l0_1.length c0_1]) (t := 27) ?hr ?_; (case hd => rfl); (case hg => rfl); (case hr => first | (go_simp; done) | (go_simp; rfl)); intro au hg w3 hbox hb; replace ad := am_ (hbox); replace bq := am_ ((by rw [hg]; exact (below_size (b0_ HB.out)) : w.heap.size ≤ au)); replace ai := am_ ((by rw [hg]; exact (below_size (b0_ HB.out)) : w.heap.size ≤ au)); replace HB := am_ (below_step (b0_ HB.out) hb); clear hb hbox hg) | ((with_reducible refine gate_dst (N := 2) rfl ?_); refine box_event ?hg (N := 2) ?hd (cs := #[.slice none 0 0, .slice none 0 0]) (t := 27) ?hr ?_; (case hd => rfl); (case hg => rfl); (case hr => first | (go_simp; done) | (go_simp; rfl)); intro aj hg w4 hbox hb; have n0_ := am_ (blk_below (rb_ ad.out) hb); have n1_ := am_ (below_step (b1_ HB.out ai.out) hb); have n2_ := am_ (hbox); have n3_ := am_ ((by rw [hg]; exact (below_size (b1_ HB.out ai.out)) : w.heap.size ≤ aj)); have n4_ := am_ ((by rw [hg]; exact (below_size (b1_ HB.out ai.out)) : w.heap.size ≤ aj)); have n5_ := am_ ((by rw [hg]; exact Nat.ne_of_lt (blk_lt (rb_ ad.out)) : au ≠ aj)); have n6_ := am_ ((by rw [hg]; exact Nat.ne_of_gt (blk_lt (rb_ ad.out)) : aj ≠ au)); clear ad; clear HB; have ad := n0_; have HB := n1_; have af := n2_; have br := n3_; have ao := n4_; have aC := n5_; have aD := n6_; clear n0_ n1_ n2_ n3_ n4_ n5_ n6_; clear hb hbox hg; have bJ := aC.out; have bK := aD.out; have aM := ck_ (v := (.slice A0_0 l0_0.length c0_0)) ad 0 rfl; have aN := ck_ (v := (.slice A0_1 l0_1.length c0_1)) ad 1 rfl; have aO := blk_frozen ad.out 0; have aP := blk_frozen ad.out 1) | ((with_reducible refine gate_callee (f := 33) rfl ?_); refine gL_ (some 6) Try.func33 #[.agg #[.slice A0_0 l0_0.length c0_0, .slice A0_1 l0_1.length c0_1]] ?_; (with_reducible refine (spec_MinimizeDfa.calls k _ _ l0_0 _ _ l0_1 ay ak _ ?side1 ?side2 ?side3 ?side4 A2.out).mono ?_); (case side1 => exact rc_ (Kd.C_below aV.out HB.out)); (case side2 => exact aW.out); (case side3 => exact rc_ (Kd.C_below aX.out HB.out)); (case side4 => exact aY.out); rintro e w7 ⟨bL, bM, rfl, ho0, ho1, hb⟩; refine ⟨_, rfl, ?_⟩; have n0_ := am_ (Kd.R_lower ho0 (below_size (b2_ HB.out ai.out ao.out))); have n1_ := am_ (Kd.S_lower ho1 (below_size (b2_ HB.out ai.out ao.out))); have n2_ := am_ (blk_below (rb_ ad.out) hb); have n3_ := am_ (blk_below (rb_ af.out) hb); have n4_ := am_ (below_step (b2_ HB.out ai.out ao.out) hb); clear ad; clear af; clear HB; have az := n0_; have aA := n1_; have ad := n2_; have af := n3_; have HB := n4_; clear n0_ n1_ n2_ n3_ n4_; (try clear hb); (try clear hb2); (try clear hk); (try clear hi); (try clear ho0); (try clear ho1)) | ((with_reducible refine gate_dst (N := 3) rfl ?_); refine box_event ?hg (N := 3) ?hd (cs := #[.slice none 0 0, .slice none 0 0]) (t := 27) ?hr ?_; (case hd => rfl); (case hg => rfl); (case hr => first | (go_simp; done) | (go_simp; rfl)); intro ah hg w8 hbox hb; have n0_ := am_ (Kd.R_below (rr_ az.out) hb); have n1_ := am_ (Kd.S_below (rs_ aA.out) hb); have n2_ := am_ (blk_below (rb_ ad.out) hb); have n3_ := am_ (blk_below (rb_ af.out) hb); have n4_ := am_ (below_step (b2_ HB.out ai.out ao.out) hb); have n5_ := am_ (hbox); have n6_ := am_ ((by rw [hg]; exact (below_size (b2_ HB.out ai.out ao.out)) : w.heap.size ≤ ah)); have n7_ := am_ ((by rw [hg]; exact (below_size (b2_ HB.out ai.out ao.out)) : w.heap.size ≤ ah)); have n8_ := am_ ((by rw [hg]; exact Nat.ne_of_lt (blk_lt (rb_ ad.out)) : au ≠ ah)); have n9_ := am_ ((by rw [hg]; exact Nat.ne_of_gt (blk_lt (rb_ ad.out)) : ah ≠ au)); have n10_ := am_ ((by rw [hg]; exact Nat.ne_of_lt (blk_lt (rb_ af.out)) : aj ≠ ah)); have n11_ := am_ ((by rw [hg]; exact Nat.ne_of_gt (blk_lt (rb_ af.out)) : ah ≠ aj)); clear az; clear aA; clear ad; clear af; clear HB; have az := n0_; have aA := n1_; have ad := n2_; have af := n3_; have HB := n4_; have ae := n5_; have bs := n6_; have aF := n7_; have al := n8_; have av := n9_; have am := n10_; have aw := n11_; clear n0_ n1_ n2_ n3_ n4_ n5_ n6_ n7_ n8_ n9_ n10_ n11_; clear hb hbox hg; obtain ⟨Ao9, co9, eo9⟩ := Kd.R_slice az.out; subst eo9; have bt := av.out; have bu := al.out; have bv := aw.out; have bw := am.out; have aI := ck_ (v := (.slice none 0 0)) ae 0 rfl; have aJ := ck_ (v := (.slice none 0 0)) ae 1 rfl; have aK := blk_frozen ae.out 0; have aL := blk_frozen ae.out 1; obtain ⟨ap, aq, ba⟩ := Kd.S_slice aA.out; subst ba))
 go_loopg [4] k (fun kq v4 w' => ∃ (ag : Int) (aa : List Bool) (ar : Value), v4 = .int .i64 ag ∧ Aside0 (spec_ComplementDfa.l0 kq ag aa ak = some (r1, r2)) ∧ Aside0 (kq ≤ k) ∧ Aside0 (Kd.R Kd.bool 4 w' w.heap.size (fun _ => True) ar aa) ∧ Aside0 (Kd.S (Kd.slice 3 (Kd.int .i64)) 67 w' w.heap.size (fun _ => True) (.slice ap ak.length aq) ak) ∧ Aside0 (w'.heap[au]? = some (.cells #[(.slice A0_0 l0_0.length c0_0), (.slice A0_1 l0_1.length c0_1)] 27 (0, 0))) ∧ Aside0 (w'.heap[aj]? = some (.cells #[(.slice none 0 0), (.slice none 0 0)] 27 (0, 0))) ∧ Aside0 (w'.heap[ah]? = some (.cells #[ar, (.slice ap ak.length aq)] 27 (0, 0))) ∧ Aside0 (Below w.heap.size w w'))
 case atStart => exact ⟨(0), (ay), (.slice Ao9 ay.length co9), (by first | rfl | (simp; done) | (simp [*]; done)), H', ⟨Nat.le_refl _⟩, ⟨by refine rr_ ?_; exact Kd.R_mono (Kd.R_far (p := ⟨ah, 1, none⟩) (Kd.R_far (p := ⟨ah, 0, none⟩) (Kd.R_types az.out ae.out (by decide)) (fun _ hk => hk.2) (.slice Ao9 ay.length co9)) (fun _ hk => hk.2) (.slice ap ak.length aq)) (fun _ hk => trivial)⟩, ⟨by refine rs_ ?_; exact Kd.S_mono (Kd.S_far (p := ⟨ah, 1, none⟩) (Kd.S_far (p := ⟨ah, 0, none⟩) (Kd.S_types aA.out ae.out (by decide)) (fun _ hk => hk.2) (.slice Ao9 ay.length co9)) (fun _ hk => hk.2) (.slice ap ak.length aq)) (fun _ hk => trivial)⟩, ⟨by refine rb_ ?_; refine blk_far ?_ al.out _; refine rb_ ?_; refine blk_far ?_ al.out _; refine rb_ ?_; exact ad.out⟩, ⟨by refine rb_ ?_; refine blk_far ?_ am.out _; refine rb_ ?_; refine blk_far ?_ am.out _; refine rb_ ?_; exact af.out⟩, ⟨by refine rb_ ?_; refine blk_put (cs := #[.slice Ao9 ay.length co9, .slice none 0 0]) ?_ 1 _ rfl; refine rb_ ?_; refine blk_put (cs := #[.slice none 0 0, .slice none 0 0]) ?_ 0 _ rfl; refine rb_ ?_; exact ae.out⟩, ⟨by repeat (first | (with_reducible first | exact HB.out | apply below_alloc | apply pw_below_drewN | apply below_drew1 | refine below_set ?_ ai.out | refine below_set ?_ ao.out | refine below_set ?_ aF.out) | exact HB.out)⟩⟩
 case round =>
  clear H'
  try clear c1
  try clear p2
  try clear c3
  try clear c5
  try clear c10
  try clear c11
  try clear c13
  try clear aI
  try clear aJ
  try clear aM
  try clear aN
  try clear aK
  try clear aL
  try clear aO
  try clear aP
  obtain ⟨ag, aa, ar, rfl, HA, HK1, ab, an, ad, af, ae, HB⟩ := hrel
  cases gk with
  | zero => exact absurd HA.out (by simp [spec_ComplementDfa.l0])
  | succ k1 =>
   have H := HA.out
   clear HA
   simp only [spec_ComplementDfa.l0] at H
   by_cases c14 : ag < (aa.length : Int)
   ·rw [if_pos c14] at H
    have c14b0 : decide (ag < (aa.length : Int)) = true := decide_eq_true c14
    clear c14
    by_cases c15 : 0 ≤ ag
    ·rw [if_pos c15] at H
     have c15b0 : decide (0 ≤ ag) = true := decide_eq_true c15
     clear c15
     obtain ⟨aQ, hy198⟩ : ∃ y_ : List Bool, y_ = (aa.set (ag : Int).toNat (!(rdOf false aa ag))) := ⟨_, rfl⟩
     replace H : (spec_ComplementDfa.l0 k1 (wrap64 (ag + 1)) aQ ak) = some (r1, r2) := by first | (rw [hy198]; with_reducible exact H) | (have H2_ := (Option.bind_some _ _).symm.trans H; rw [hy198]; with_reducible exact H2_) | (have H2_ := (Option.bind_some _ _).symm.trans H; with_reducible exact H2_) | with_reducible exact H | (rw [hy198]; exact H) | exact H
     have aZ := am_ hy198
     clear hy198
     have H' := am_ H
     clear H
     have bx := av.out
     have bz := al.out
     have bA := aw.out
     have bB := am.out
     have bd := ck_ (v := (ar)) ae 0 rfl
     have be := ck_ (v := (.slice ap ak.length aq)) ae 1 rfl
     have bf := blk_frozen ae.out 0
     have bg := blk_frozen ae.out 1
     obtain ⟨bN, aR, bb⟩ := Kd.R_slice ab.out
     subst bb
     try go_wp2
     replace ab := am_ (Kd.R_drew ab.out)
     replace an := am_ (Kd.S_drew an.out)
     replace ad := am_ (blk_drew ad.out)
     replace af := am_ (blk_drew af.out)
     replace ae := am_ (blk_drew ae.out)
     replace HB := am_ (below_drew1 HB.out)
     have p197 : 0 ≤ (ag : Int) := of_decide_eq_true ah_
     have q197 : ag < (aa.length : Int) := of_decide_eq_true ah_
     obtain ⟨bC, e197, aB⟩ := Kd.at_bool (Kd.R_reads' ab.out).2.2 ag p197 q197
     cases e197
     replace p197 := eq_true p197
     replace q197 := eq_true q197
     have p16 : 0 ≤ (ag : Int) := of_decide_eq_true ah_
     have q16 : (ag : Int) < ((aa.length : Int) : Int) := of_decide_eq_true ah_
     obtain ⟨go16, bO, aS, aT, gl16, cl16, HG16⟩ := Kd.R_form ab.out (by omega)
     (first | cases aS | (injection aS with ea_ en_ ec_; (first | subst ea_ | (injection ea_ with ea_; subst ea_)); subst ec_; clear en_))
     have GB16 := am_ aT
     have GG16 := am_ HG16
     clear aT gl16 HG16
     (first | simp only [add_plain] at aB | skip)
     obtain ⟨aU, hf16_0⟩ := Kd.R_celln false ab.out (ag : Int) p16 q16
     replace p16 := eq_true p16
     replace q16 := eq_true q16
     have HP22 := Kd.R_putn ab.out (ag : Int) (!(rdOf false aa ag))
     rw [← aZ.out] at HP22
     have HQ22 := am_ HP22
     clear HP22
     refine start_ (n := 11) (S := fun w' => w'.cell? ⟨ah, 0, none⟩ = some (.slice (some ⟨go16, 0, none⟩) aa.length aR) ∧ w'.cell? ⟨ah, 1, none⟩ = some (.slice ap ak.length aq) ∧ w'.cell? ⟨go16, (ag).toNat, none⟩ = some (.bool (rdOf false aa ag))) (ds := [10]) (bl 11 0) (by kernel_rfl) rfl rfl ⟨(blk_cell ae.out 0).trans rfl, (blk_cell ae.out 1).trans rfl, aB⟩ (fun hHeld => ?_); refine with_tabW spec_ComplementDfa.tab5 spec_ComplementDfa.bits5 (fun HT_ HW_ => ?_)
     generalize wr.drew = w21 at ab an ad af ae HB GG16 HQ22 hf16_0 aU aB hHeld ⊢
     refine pu_ 0 14 (bl 11 1) HT_ ?_
     refine pu_ 2 16 (bl 11 5) HT_ ?_
     refine pu_ 3 17 (bl 11 13) HT_ ?_
     refine pu_ 5 19 (bl 11 45) HT_ ?_
     refine tk_ 1 15 (bl 11 47) HT_ HW_ hHeld ?_
     refine tk_ 4 18 (bl 11 63) HT_ HW_ hHeld ?_
     refine pu_ 6 20 (bl 11 127) HT_ ?_
     refine tk_ 7 21 (bl 11 255) HT_ HW_ hHeld ?_
     refine pu_ 8 22 (bl 11 511) HT_ ?_
     refine pu_ 9 23 (bl 11 1023) HT_ ?_
     refine last_ (i := 10) (N := none) (bl 11 2047) rfl rfl (one_of HT_.out (by kernel_rfl)) (by decide) (fun K hK => ?_)
     refine skip_ (w1 := ?_) (by rfl) rfl ?_ ?_
     rotate_left
     ·go_simp
      rfl
     refine hK.out _ _ ?_
     clear hK K
     refine done_ (done_of HT_.out (by kernel_rfl)) ?_
     try go_wp2
     go_roundg k1
     case measure => have := HK1.out; omega
     case rel => exact ⟨(wrap64 (ag + 1)), (aQ), (.slice (some ⟨go16, 0, none⟩) aa.length aR), (by first | rfl | (simp; done) | (simp [*]; done)), H', ⟨by have := HK1.out; omega⟩, ⟨by refine rr_ ?_; exact HQ22.out⟩, ⟨by refine rs_ ?_; exact Kd.S_mono (Kd.S_far (p := ⟨go16, (ag : Int).toNat, none⟩) (Kd.S_types an.out GG16.out (by decide)) (fun _ hk => hk.2) (.bool (!(rdOf false aa ag)))) (fun _ hk => trivial)⟩, ⟨by refine rb_ ?_; refine blk_far ?_ (by have h_ := Kd.R_ne ab.out ad.out (by decide); intro e_; exact h_ (by rw [e_]; rfl)) _; refine rb_ ?_; exact ad.out⟩, ⟨by refine rb_ ?_; refine blk_far ?_ (by have h_ := Kd.R_ne ab.out af.out (by decide); intro e_; exact h_ (by rw [e_]; rfl)) _; refine rb_ ?_; exact af.out⟩, ⟨by refine rb_ ?_; refine blk_far ?_ (by have h_ := Kd.R_ne ab.out ae.out (by decide); intro e_; exact h_ (by rw [e_]; rfl)) _; refine rb_ ?_; exact ae.out⟩, ⟨by repeat (first | (with_reducible first | exact HB.out | apply below_alloc | apply pw_below_drewN | apply below_drew1 | refine below_set ?_ GB16.out | refine below_set ?_ ai.out | refine below_set ?_ ao.out | refine below_set ?_ aF.out) | exact HB.out)⟩⟩
    ·rw [if_neg c15] at H
     exact absurd H (by simp)
   ·rw [if_neg c14] at H
    have c14b0 : decide (ag < (aa.length : Int)) = false := decide_eq_false c14
    clear c14
    simp only [Option.some.injEq, Prod.mk.injEq] at H
    obtain ⟨rfl, rfl⟩ := H
    have bD := av.out
    have bE := al.out
    have bF := aw.out
    have bG := am.out
    have bh := ck_ (v := (ar)) ae 0 rfl
    have bi := ck_ (v := (.slice ap ak.length aq)) ae 1 rfl
    have bj := blk_frozen ae.out 0
    have bk := blk_frozen ae.out 1
    obtain ⟨aG, aH, bc⟩ := Kd.R_slice ab.out
    subst bc
    have bH := aD.out
    have bI := aC.out
    have bm := ck_ (v := (.slice none 0 0)) af 0 rfl
    have bn := ck_ (v := (.slice none 0 0)) af 1 rfl
    have bo := blk_frozen af.out 0
    have bp := blk_frozen af.out 1
    go_wp2
    refine bodyPost_ret (results_cell_row rfl _ _ aj 27 #[.slice aG aa.length aH, .slice ap ak.length aq] (0, 0) _ rfl (by refine rb_ ?_; refine blk_put (cs := #[.slice aG aa.length aH, .slice none 0 0]) ?_ 1 _ rfl; refine rb_ ?_; refine blk_put (cs := #[.slice none 0 0, .slice none 0 0]) ?_ 0 _ rfl; refine rb_ ?_; exact af.out) Try.underlying27 rfl (by kernel_rfl)) rfl ?_
    exact ⟨_, _, by first | rfl | (simp [errW_none, errW_some] <;> rfl) | (simp [*, errW_none, errW_some] <;> rfl), by refine rr_ ?_; exact Kd.R_mono (Kd.R_far (p := ⟨aj, 1, none⟩) (Kd.R_far (p := ⟨aj, 0, none⟩) (Kd.R_types ab.out af.out (by decide)) (fun _ hk => hk.2) (.slice aG aa.length aH)) (fun _ hk => hk.2) (.slice ap ak.length aq)) (fun _ hk => trivial), by refine rs_ ?_; exact Kd.S_mono (Kd.S_far (p := ⟨aj, 1, none⟩) (Kd.S_far (p := ⟨aj, 0, none⟩) (Kd.S_types an.out af.out (by decide)) (fun _ hk => hk.2) (.slice aG aa.length aH)) (fun _ hk => hk.2) (.slice ap ak.length aq)) (fun _ hk => trivial), by repeat (first | (with_reducible first | exact HB.out | apply below_alloc | apply pw_below_drewN | apply below_drew1 | refine below_set ?_ ai.out | refine below_set ?_ ao.out | refine below_set ?_ aF.out) | exact HB.out)⟩
end Go.Proofs.Ytogamkblkoobkaa.P
end
section
namespace Go.Proofs.Ytogamkblkoobkaa.Can
open Go.RowKit Go.Proofs.Ytogamkblkoobkaa Go.Proofs.Ytogamkblkoobkaa.P Go.Proofs.Ytogamkblkoobkaa.Wk Go.Proofs.Ytogamkblkoobkaa.Lg Go.Proofs.Ytogamkblkoobkaa.Pl Go.Proofs.Ytogamkblkoobkaa.Mp Go.Proofs.Ytogamkblkoobkaa.Bf Go.Proofs.Ytogamkblkoobkaa.Mn Go.Proofs.YtogamkblkoobkaaW.PrintWords Go.Proofs.YtogamkblkoobkaaW.PrintLast Go.Proofs.YtogamkblkoobkaaW.PrintMore
set_option linter.unusedVariables false
set_option linter.unusedSimpArgs false
set_option linter.unusedSectionVars false
theorem spec_cm_l0 (b : List (List Int)) (xs : List Bool) (hx : xs.length ≤ 2000000) : ∀ d i : Nat, i + d = xs.length → Ev (fun k => spec_ComplementDfa.l0 k (i : Int) ((xs.take i).map (fun b => !b) ++ xs.drop i) b) (xs.map (fun b => !b), b) := by
  intro d
  induction d with
  | zero =>
    intro i hi
    refine next ?_
    have hl : (((xs.take i).map (fun b => !b) ++ xs.drop i).length : Int) = (xs.length : Int) := by simp; omega
    simp only [spec_ComplementDfa.l0, hl, if_neg (show ¬ (i : Int) < (xs.length : Int) by omega)]
    rw [List.take_of_length_le (by omega), List.drop_eq_nil_of_le (by omega), List.append_nil]
    exact ev_some rfl
  | succ d ih =>
    intro i hi
    have hii : i < xs.length := by omega
    refine next ?_
    have hl : (((xs.take i).map (fun b => !b) ++ xs.drop i).length : Int) = (xs.length : Int) := by simp; omega
    have hat : rdOf false ((xs.take i).map (fun b => !b) ++ xs.drop i) (i : Int) = xs[i] := by
      rw [rdOf_get false _ i (by simp; omega), List.getElem_append_right (by simp; omega)]
      simp [Nat.min_eq_left (Nat.le_of_lt hii)]
    simp only [spec_ComplementDfa.l0, hl, if_pos (show (i : Int) < (xs.length : Int) by omega), if_pos (show (0 : Int) ≤ (i : Int) by omega), hat, Int.toNat_natCast]
    have hs : ((xs.take i).map (fun b => !b) ++ xs.drop i).set i (!xs[i]) = (xs.take (i + 1)).map (fun b => !b) ++ xs.drop (i + 1) := by
      rw [List.drop_eq_getElem_cons hii]
      have := set_mid ((xs.take i).map (fun b => !b)) xs[i] (!xs[i]) (xs.drop (i + 1))
      rw [show ((xs.take i).map (fun b => !b)).length = i by simp; omega] at this
      rw [this, List.take_succ_eq_append_getElem hii, List.map_append, List.map_singleton]
    rw [hs, up1 (by omega)]
    exact ih (i + 1) (by omega)
theorem spec_complement (a : List Bool) (n : List (List Int)) (ha : a.length ≤ 1048576) (hn : n.length ≤ 1048576) : Ev (fun k => spec_ComplementDfa.f k a n) (cmOf a n) := by
  simp only [spec_ComplementDfa.f]
  refine Ev.bind (spec_minimize a n ha hn) ?_
  have := spec_cm_l0 (minOf a n).2 (minOf a n).1 (by have := (minOf_len a n).1; omega) (minOf a n).1.length 0 (by omega)
  simpa [cmOf, flip] using this
theorem impl_cm_l0 {a : List Bool} {n : List (List Int)} (hf : Fits a n) (ha : 1 ≤ a.length) (hx : a.length ≤ 40) (hr : ∀ r ∈ n, r.length = 3 ∧ ∀ q ∈ r, 0 ≤ q ∧ q < (a.length : Int)) : ∀ d i : Nat, i + d = a.length → Ev (fun k => impl_ComplementDfa.l0 k a (a.length : Int) (i : Int) ((a.take i).map (fun b => !b)) n) (flip (minD a n 0)) := by
  intro d
  induction d with
  | zero =>
    intro i hi
    refine next ?_
    simp only [impl_ComplementDfa.l0, if_neg (show ¬ (i : Int) < (a.length : Int) by omega)]
    rw [List.take_of_length_le (by omega)]
    unfold impl_minimized.f
    have hl := hf.len
    rw [if_pos ⟨by rw [List.length_map]; exact hl, by rw [List.length_map]; omega, by rw [List.length_map]; exact hr, by omega, by rw [List.length_map]; omega⟩, min_not hf (by omega)]
    exact ev_some rfl
  | succ d ih =>
    intro i hi
    have hii : i < a.length := by omega
    refine next ?_
    have hl : ((a.take i).map (fun b => !b)).length < 140737488355328 := by simp; omega
    simp only [impl_ComplementDfa.l0, if_pos (show (i : Int) < (a.length : Int) by omega), if_pos (show (0 : Int) ≤ (i : Int) by omega), if_pos hl, rdOf_get false a i hii]
    rw [up1 (by omega)]
    have := ih (i + 1) (by omega)
    rw [List.take_succ_eq_append_getElem hii, List.map_append, List.map_singleton] at this
    exact this
theorem impl_complement (a : List Bool) (n : List (List Int)) : Ev (fun k => impl_ComplementDfa.f k a n) (cmOf a n) := by
  simp only [impl_ComplementDfa.f, impl_IsValidDfa.f, Option.bind_some, cmOf, minOf]
  by_cases hv : validD a n = true
  · obtain ⟨h1, h2, h3, h4⟩ := validD_facts hv
    simp only [hv, if_true]
    have := impl_cm_l0 (fits_valid hv) h1 h2 h4 a.length 0 (by omega)
    simpa using this
  · simp only [if_neg hv]
    exact ev_some rfl
end Go.Proofs.Ytogamkblkoobkaa.Can
end
section
namespace Go.Proofs.Ytogamkblkoobkaa.P
open Go.RowKit Go.Proofs.YtogamkblkoobkaaW.PrintWords Go.Proofs.YtogamkblkoobkaaW.PrintLast Go.Proofs.YtogamkblkoobkaaW.PrintMore
attribute [local go_sem] max2_int min2_int max_two min_two max_three min_three max_four min_four
set_option linter.unusedVariables false
set_option linter.unusedSimpArgs false
def spec_l5Fits.f (k : Nat) (l0_0 : List Bool) (l0_1 : List (List Int)) : Option (List Bool × (List (List Int)) × Bool) := (spec_l5Minimal.f k l0_0 l0_1).bind fun bt266 => ((spec_IsValidDfa.f k bt266.1 bt266.2).bind fun aE => (if aE = true then (some (bt266.1, bt266.2, true)) else (some (([] : List Bool), ([] : List (List Int)), false))))
theorem spec_l5Fits.mono : ∀ a0 a1 k, LeO (spec_l5Fits.f k a0 a1) (spec_l5Fits.f (k + 1) a0 a1) := by
 intro a0 a1 k
 unfold spec_l5Fits.f
 repeat' first
   | (with_reducible exact spec_IsValidDfa.mono _ _ _)
   | (with_reducible exact spec_l5Minimal.mono _ _ _)
   | (with_reducible exact LeO.refl _)
   | (with_reducible exact LeO.none _)
   | (with_reducible refine LeO.ite ?_ ?_)
   | (with_reducible refine LeO.bind ?_ (fun _ => ?_))
   | exact spec_IsValidDfa.mono _ _ _
   | exact spec_l5Minimal.mono _ _ _
   | exact LeO.none _
   | refine LeO.ite ?_ ?_
   | refine LeO.bind ?_ (fun _ => ?_)
set_option maxHeartbeats 8000000 in
set_option maxRecDepth 100000 in
theorem spec_l5Fits.calls (k : Nat) (A0_0 : Option Addr) (c0_0 : Nat) (l0_0 : List Bool) (A0_1 : Option Addr) (c0_1 : Nat) (l0_1 : List (List Int)) (r1 : List Bool) (r2 : List (List Int)) (r3 : Bool) (w : World) (hr0_0 : Kd.C Kd.bool w A0_0 l0_0.length l0_0) (hc0_0 : l0_0.length ≤ c0_0) (hr0_1 : Kd.C (Kd.slice 3 (Kd.int .i64)) w A0_1 l0_1.length l0_1) (hc0_1 : l0_1.length ≤ c0_1) (h : spec_l5Fits.f k l0_0 l0_1 = some (r1, r2, r3)) :
  Calls Try.prog 64 #[.agg #[.slice A0_0 l0_0.length c0_0, .slice A0_1 l0_1.length c0_1]] w fun e w' => ∃ v0_ v1_ : Value, e = .returned (.tuple #[.agg #[v0_, v1_], .bool r3]) ∧ Kd.R Kd.bool 4 w' w.heap.size (fun _ => True) v0_ r1 ∧ Kd.S (Kd.slice 3 (Kd.int .i64)) 67 w' w.heap.size (fun _ => True) v1_ r2 ∧ Below w.heap.size w w' := by
 have hu27 := Try.underlying27
 have aF := am_ hr0_0
 have aG := am_ hc0_0
 clear hr0_0 hc0_0
 have aH := am_ hr0_1
 have aI := am_ hc0_1
 clear hr0_1 hc0_1
 have HB := am_ (Below.refl w.heap.size w)
 have H : ((spec_l5Minimal.f k l0_0 l0_1).bind fun bt266 => ((spec_IsValidDfa.f k bt266.1 bt266.2).bind fun aE => (if aE = true then (some (bt266.1, bt266.2, true)) else (some (([] : List Bool), ([] : List (List Int)), false))))) = some (r1, r2, r3) := h
 clear h
 replace H := Option.bind_eq_some_iff.mp H
 obtain ⟨⟨ah, ak⟩, A20, H⟩ := H
 have A2 := am_ A20
 clear A20
 replace H := Option.bind_eq_some_iff.mp H
 obtain ⟨aE, A30, H⟩ := H
 have A3 := am_ A30
 clear A30
 by_cases c4 : aE = true
 ·subst c4
  have H1 : (some (ah, ak, true)) = some (r1, r2, r3) := by rw [if_pos rfl] at H; exact H
  clear H
  have H := H1
  clear H1
  simp only [Option.some.injEq, Prod.mk.injEq] at H
  obtain ⟨rfl, rfl, rfl⟩ := H
  go_enter Try.func64, Try.ntmps64
  go_wp2_with (first | ((with_reducible refine gate_dst (N := 1) rfl ?_); refine box_event ?hg (N := 1) ?hd (cs := #[.slice A0_0 l0_0.length c0_0, .slice A0_1 l0_1.length c0_1]) (t := 27) ?hr ?_; (case hd => rfl); (case hg => rfl); (case hr => first | (go_simp; done) | (go_simp; rfl)); intro am hg w5 hbox hb; replace aa := am_ (hbox); replace aJ := am_ ((by rw [hg]; exact (below_size (b0_ HB.out)) : w.heap.size ≤ am)); replace af := am_ ((by rw [hg]; exact (below_size (b0_ HB.out)) : w.heap.size ≤ am)); replace HB := am_ (below_step (b0_ HB.out) hb); clear hb hbox hg) | ((with_reducible refine gate_dst (N := 2) rfl ?_); refine box_event ?hg (N := 2) ?hd (cs := #[.slice none 0 0, .slice none 0 0]) (t := 27) ?hr ?_; (case hd => rfl); (case hg => rfl); (case hr => first | (go_simp; done) | (go_simp; rfl)); intro ag hg w6 hbox hb; have n0_ := am_ (blk_below (rb_ aa.out) hb); have n1_ := am_ (below_step (b1_ HB.out af.out) hb); have n2_ := am_ (hbox); have n3_ := am_ ((by rw [hg]; exact (below_size (b1_ HB.out af.out)) : w.heap.size ≤ ag)); have n4_ := am_ ((by rw [hg]; exact (below_size (b1_ HB.out af.out)) : w.heap.size ≤ ag)); have n5_ := am_ ((by rw [hg]; exact Nat.ne_of_lt (blk_lt (rb_ aa.out)) : am ≠ ag)); have n6_ := am_ ((by rw [hg]; exact Nat.ne_of_gt (blk_lt (rb_ aa.out)) : ag ≠ am)); clear aa; clear HB; have aa := n0_; have HB := n1_; have ab := n2_; have aK := n3_; have al := n4_; have av := n5_; have aw := n6_; clear n0_ n1_ n2_ n3_ n4_ n5_ n6_; clear hb hbox hg; have bF := av.out; have bG := aw.out; have bq := ck_ (v := (.slice A0_0 l0_0.length c0_0)) aa 0 rfl; have br := ck_ (v := (.slice A0_1 l0_1.length c0_1)) aa 1 rfl; have bs := blk_frozen aa.out 0; have bt := blk_frozen aa.out 1) | ((with_reducible refine gate_callee (f := 94) rfl ?_); refine gL_ (some 6) Try.func94 #[.agg #[.slice A0_0 l0_0.length c0_0, .slice A0_1 l0_1.length c0_1]] ?_; (with_reducible refine (spec_l5Minimal.calls k _ _ l0_0 _ _ l0_1 ah ak _ ?side1 ?side2 ?side3 ?side4 A2.out).mono ?_); (case side1 => exact rc_ (Kd.C_below aF.out HB.out)); (case side2 => exact aG.out); (case side3 => exact rc_ (Kd.C_below aH.out HB.out)); (case side4 => exact aI.out); rintro e w9 ⟨aM, aN, rfl, ho0, ho1, hb⟩; refine ⟨_, rfl, ?_⟩; have n0_ := am_ (Kd.R_lower ho0 (below_size (b2_ HB.out af.out al.out))); have n1_ := am_ (Kd.S_lower ho1 (below_size (b2_ HB.out af.out al.out))); have n2_ := am_ (blk_below (rb_ aa.out) hb); have n3_ := am_ (blk_below (rb_ ab.out) hb); have n4_ := am_ (below_step (b2_ HB.out af.out al.out) hb); clear aa; clear ab; clear HB; have ai := n0_; have aj := n1_; have aa := n2_; have ab := n3_; have HB := n4_; clear n0_ n1_ n2_ n3_ n4_; (try clear hb); (try clear hb2); (try clear hk); (try clear hi); (try clear ho0); (try clear ho1)) | ((with_reducible refine gate_dst (N := 4) rfl ?_); refine box_event ?hg (N := 4) ?hd (cs := #[.slice none 0 0, .slice none 0 0]) (t := 27) ?hr ?_; (case hd => rfl); (case hg => rfl); (case hr => first | (go_simp; done) | (go_simp; rfl)); intro ad hg w10 hbox hb; have n0_ := am_ (Kd.R_below (rr_ ai.out) hb); have n1_ := am_ (Kd.S_below (rs_ aj.out) hb); have n2_ := am_ (blk_below (rb_ aa.out) hb); have n3_ := am_ (blk_below (rb_ ab.out) hb); have n4_ := am_ (below_step (b2_ HB.out af.out al.out) hb); have n5_ := am_ (hbox); have n6_ := am_ ((by rw [hg]; exact (below_size (b2_ HB.out af.out al.out)) : w.heap.size ≤ ad)); have n7_ := am_ ((by rw [hg]; exact (below_size (b2_ HB.out af.out al.out)) : w.heap.size ≤ ad)); have n8_ := am_ ((by rw [hg]; exact Nat.ne_of_lt (blk_lt (rb_ aa.out)) : am ≠ ad)); have n9_ := am_ ((by rw [hg]; exact Nat.ne_of_gt (blk_lt (rb_ aa.out)) : ad ≠ am)); have n10_ := am_ ((by rw [hg]; exact Nat.ne_of_lt (blk_lt (rb_ ab.out)) : ag ≠ ad)); have n11_ := am_ ((by rw [hg]; exact Nat.ne_of_gt (blk_lt (rb_ ab.out)) : ad ≠ ag)); clear ai; clear aj; clear aa; clear ab; clear HB; have ai := n0_; have aj := n1_; have aa := n2_; have ab := n3_; have HB := n4_; have ae := n5_; have aL := n6_; have aC := n7_; have an := n8_; have ax := n9_; have ao := n10_; have ay := n11_; clear n0_ n1_ n2_ n3_ n4_ n5_ n6_ n7_ n8_ n9_ n10_ n11_; clear hb hbox hg; obtain ⟨aq, ap, aO⟩ := Kd.R_slice ai.out; subst aO; have bu := ax.out; have bv := an.out; have bw := ay.out; have bx := ao.out; have aS := ck_ (v := (.slice none 0 0)) ae 0 rfl; have aT := ck_ (v := (.slice none 0 0)) ae 1 rfl; have aU := blk_frozen ae.out 0; have aV := blk_frozen ae.out 1; obtain ⟨au, ar, aP⟩ := Kd.S_slice aj.out; subst aP) | ((with_reducible refine gate_callee (f := 35) rfl ?_); refine gL_ (some 8) Try.func35 #[.agg #[.slice aq ah.length ap, .slice au ak.length ar]] ?_; (with_reducible refine (spec_IsValidDfa.calls k _ _ ah _ _ ak true _ ?side1 ?side2 ?side3 ?side4 A3.out).mono ?_); (case side1 => refine (Kd.R_reads' (e := 4) (base := w.heap.size) (ok := fun k_ => True) (n := ah.length) (c := ap) ?_).2.2; exact (rr_ (Kd.R_mono (Kd.R_far (p := ⟨ad, 1, none⟩) (Kd.R_far (p := ⟨ad, 0, none⟩) (Kd.R_types ai.out ae.out (by decide)) (fun _ hk => hk.2) (.slice aq ah.length ap)) (fun _ hk => hk.2) (.slice au ak.length ar)) (fun _ h_ => h_.1)))); (case side2 => exact (Kd.R_reads' ai.out).2.1); (case side3 => refine (Kd.S_reads' (e := 67) (base := w.heap.size) (ok := fun k_ => True) (n := ak.length) (c := ar) ?_).2.2; exact (rs_ (Kd.S_mono (Kd.S_far (p := ⟨ad, 1, none⟩) (Kd.S_far (p := ⟨ad, 0, none⟩) (Kd.S_types aj.out ae.out (by decide)) (fun _ hk => hk.2) (.slice aq ah.length ap)) (fun _ hk => hk.2) (.slice au ak.length ar)) (fun _ h_ => h_.1)))); (case side4 => exact (Kd.S_reads' aj.out).2.1); rintro e w16 ⟨rfl, hb⟩; refine ⟨_, rfl, ?_⟩; have n0_ := am_ (Kd.R_below (rr_ (Kd.R_mono (Kd.R_far (p := ⟨ad, 1, none⟩) (Kd.R_far (p := ⟨ad, 0, none⟩) (Kd.R_types ai.out ae.out (by decide)) (fun _ hk => hk.2) (.slice aq ah.length ap)) (fun _ hk => hk.2) (.slice au ak.length ar)) (fun _ h_ => h_.1))) hb); have n1_ := am_ (Kd.S_below (rs_ (Kd.S_mono (Kd.S_far (p := ⟨ad, 1, none⟩) (Kd.S_far (p := ⟨ad, 0, none⟩) (Kd.S_types aj.out ae.out (by decide)) (fun _ hk => hk.2) (.slice aq ah.length ap)) (fun _ hk => hk.2) (.slice au ak.length ar)) (fun _ h_ => h_.1))) hb); have n2_ := am_ (blk_below (g := am) (o := .cells #[.slice A0_0 l0_0.length c0_0, .slice A0_1 l0_1.length c0_1] 27 (0, 0)) (by refine rb_ ?_; refine blk_far ?_ an.out _; refine rb_ ?_; refine blk_far ?_ an.out _; refine rb_ ?_; exact aa.out) hb); have n3_ := am_ (blk_below (g := ag) (o := .cells #[.slice none 0 0, .slice none 0 0] 27 (0, 0)) (by refine rb_ ?_; refine blk_far ?_ ao.out _; refine rb_ ?_; refine blk_far ?_ ao.out _; refine rb_ ?_; exact ab.out) hb); have n4_ := am_ (blk_below (g := ad) (o := .cells #[.slice aq ah.length ap, .slice au ak.length ar] 27 (0, 0)) (by refine rb_ ?_; refine blk_put (cs := #[.slice aq ah.length ap, .slice none 0 0]) ?_ 1 _ rfl; refine rb_ ?_; refine blk_put (cs := #[.slice none 0 0, .slice none 0 0]) ?_ 0 _ rfl; refine rb_ ?_; exact ae.out) hb); have n5_ := am_ (below_step (b3_ HB.out af.out al.out aC.out) hb); clear ai; clear aj; clear aa; clear ab; clear ae; clear HB; have ai := n0_; have aj := n1_; have aa := n2_; have ab := n3_; have ae := n4_; have HB := n5_; clear n0_ n1_ n2_ n3_ n4_ n5_; (try clear hb); (try clear hb2); (try clear hk); (try clear hi); have aW := ck_ (v := (.slice aq ah.length ap)) ae 0 rfl; have aX := ck_ (v := (.slice au ak.length ar)) ae 1 rfl; have aY := blk_frozen ae.out 0; have aZ := blk_frozen ae.out 1; have ba := ck_ (v := (.slice none 0 0)) ab 0 rfl; have bb := ck_ (v := (.slice none 0 0)) ab 1 rfl; have bc := blk_frozen ab.out 0; have bd := blk_frozen ab.out 1))
  refine bodyPost_ret (results_ct rfl _ _ ag 27 #[.slice aq ah.length ap, .slice au ak.length ar] (0, 0) _ rfl (by refine rb_ ?_; refine blk_put (cs := #[.slice aq ah.length ap, .slice none 0 0]) ?_ 1 _ rfl; refine rb_ ?_; refine blk_put (cs := #[.slice none 0 0, .slice none 0 0]) ?_ 0 _ rfl; refine rb_ ?_; exact ab.out) Try.underlying27 rfl (by kernel_rfl)) rfl ?_
  exact ⟨_, _, by first | rfl | (simp [errW_none, errW_some] <;> rfl) | (simp [*, errW_none, errW_some] <;> rfl), by refine rr_ ?_; exact Kd.R_mono (Kd.R_far (p := ⟨ag, 1, none⟩) (Kd.R_far (p := ⟨ag, 0, none⟩) (Kd.R_types ai.out ab.out (by decide)) (fun _ hk => hk.2) (.slice aq ah.length ap)) (fun _ hk => hk.2) (.slice au ak.length ar)) (fun _ hk => trivial), by refine rs_ ?_; exact Kd.S_mono (Kd.S_far (p := ⟨ag, 1, none⟩) (Kd.S_far (p := ⟨ag, 0, none⟩) (Kd.S_types aj.out ab.out (by decide)) (fun _ hk => hk.2) (.slice aq ah.length ap)) (fun _ hk => hk.2) (.slice au ak.length ar)) (fun _ hk => trivial), by repeat (first | (with_reducible first | exact HB.out | apply below_alloc | apply pw_below_drewN | apply below_drew1 | refine below_set ?_ af.out | refine below_set ?_ al.out | refine below_set ?_ aC.out) | exact HB.out)⟩
 ·replace c4 := Bool.eq_false_iff.mpr c4
  subst c4
  have H1 : (some (([] : List Bool), ([] : List (List Int)), false)) = some (r1, r2, r3) := by rw [if_neg (show ¬ (false = true) by decide)] at H; exact H
  clear H
  have H := H1
  clear H1
  simp only [Option.some.injEq, Prod.mk.injEq] at H
  obtain ⟨rfl, rfl, rfl⟩ := H
  go_enter Try.func64, Try.ntmps64
  go_wp2_with (first | ((with_reducible refine gate_dst (N := 1) rfl ?_); refine box_event ?hg (N := 1) ?hd (cs := #[.slice A0_0 l0_0.length c0_0, .slice A0_1 l0_1.length c0_1]) (t := 27) ?hr ?_; (case hd => rfl); (case hg => rfl); (case hr => first | (go_simp; done) | (go_simp; rfl)); intro am hg w19 hbox hb; replace aa := am_ (hbox); replace aJ := am_ ((by rw [hg]; exact (below_size (b0_ HB.out)) : w.heap.size ≤ am)); replace af := am_ ((by rw [hg]; exact (below_size (b0_ HB.out)) : w.heap.size ≤ am)); replace HB := am_ (below_step (b0_ HB.out) hb); clear hb hbox hg) | ((with_reducible refine gate_dst (N := 2) rfl ?_); refine box_event ?hg (N := 2) ?hd (cs := #[.slice none 0 0, .slice none 0 0]) (t := 27) ?hr ?_; (case hd => rfl); (case hg => rfl); (case hr => first | (go_simp; done) | (go_simp; rfl)); intro ag hg w20 hbox hb; have n0_ := am_ (blk_below (rb_ aa.out) hb); have n1_ := am_ (below_step (b1_ HB.out af.out) hb); have n2_ := am_ (hbox); have n3_ := am_ ((by rw [hg]; exact (below_size (b1_ HB.out af.out)) : w.heap.size ≤ ag)); have n4_ := am_ ((by rw [hg]; exact (below_size (b1_ HB.out af.out)) : w.heap.size ≤ ag)); have n5_ := am_ ((by rw [hg]; exact Nat.ne_of_lt (blk_lt (rb_ aa.out)) : am ≠ ag)); have n6_ := am_ ((by rw [hg]; exact Nat.ne_of_gt (blk_lt (rb_ aa.out)) : ag ≠ am)); clear aa; clear HB; have aa := n0_; have HB := n1_; have ab := n2_; have aK := n3_; have al := n4_; have av := n5_; have aw := n6_; clear n0_ n1_ n2_ n3_ n4_ n5_ n6_; clear hb hbox hg; have bz := av.out; have bA := aw.out; have be := ck_ (v := (.slice A0_0 l0_0.length c0_0)) aa 0 rfl; have bf := ck_ (v := (.slice A0_1 l0_1.length c0_1)) aa 1 rfl; have bg := blk_frozen aa.out 0; have bh := blk_frozen aa.out 1) | ((with_reducible refine gate_callee (f := 94) rfl ?_); refine gL_ (some 6) Try.func94 #[.agg #[.slice A0_0 l0_0.length c0_0, .slice A0_1 l0_1.length c0_1]] ?_; (with_reducible refine (spec_l5Minimal.calls k _ _ l0_0 _ _ l0_1 ah ak _ ?side1 ?side2 ?side3 ?side4 A2.out).mono ?_); (case side1 => exact rc_ (Kd.C_below aF.out HB.out)); (case side2 => exact aG.out); (case side3 => exact rc_ (Kd.C_below aH.out HB.out)); (case side4 => exact aI.out); rintro e w23 ⟨aM, aN, rfl, ho0, ho1, hb⟩; refine ⟨_, rfl, ?_⟩; have n0_ := am_ (Kd.R_lower ho0 (below_size (b2_ HB.out af.out al.out))); have n1_ := am_ (Kd.S_lower ho1 (below_size (b2_ HB.out af.out al.out))); have n2_ := am_ (blk_below (rb_ aa.out) hb); have n3_ := am_ (blk_below (rb_ ab.out) hb); have n4_ := am_ (below_step (b2_ HB.out af.out al.out) hb); clear aa; clear ab; clear HB; have ai := n0_; have aj := n1_; have aa := n2_; have ab := n3_; have HB := n4_; clear n0_ n1_ n2_ n3_ n4_; (try clear hb); (try clear hb2); (try clear hk); (try clear hi); (try clear ho0); (try clear ho1)) | ((with_reducible refine gate_dst (N := 4) rfl ?_); refine box_event ?hg (N := 4) ?hd (cs := #[.slice none 0 0, .slice none 0 0]) (t := 27) ?hr ?_; (case hd => rfl); (case hg => rfl); (case hr => first | (go_simp; done) | (go_simp; rfl)); intro ad hg w24 hbox hb; have n0_ := am_ (Kd.R_below (rr_ ai.out) hb); have n1_ := am_ (Kd.S_below (rs_ aj.out) hb); have n2_ := am_ (blk_below (rb_ aa.out) hb); have n3_ := am_ (blk_below (rb_ ab.out) hb); have n4_ := am_ (below_step (b2_ HB.out af.out al.out) hb); have n5_ := am_ (hbox); have n6_ := am_ ((by rw [hg]; exact (below_size (b2_ HB.out af.out al.out)) : w.heap.size ≤ ad)); have n7_ := am_ ((by rw [hg]; exact (below_size (b2_ HB.out af.out al.out)) : w.heap.size ≤ ad)); have n8_ := am_ ((by rw [hg]; exact Nat.ne_of_lt (blk_lt (rb_ aa.out)) : am ≠ ad)); have n9_ := am_ ((by rw [hg]; exact Nat.ne_of_gt (blk_lt (rb_ aa.out)) : ad ≠ am)); have n10_ := am_ ((by rw [hg]; exact Nat.ne_of_lt (blk_lt (rb_ ab.out)) : ag ≠ ad)); have n11_ := am_ ((by rw [hg]; exact Nat.ne_of_gt (blk_lt (rb_ ab.out)) : ad ≠ ag)); clear ai; clear aj; clear aa; clear ab; clear HB; have ai := n0_; have aj := n1_; have aa := n2_; have ab := n3_; have HB := n4_; have ae := n5_; have aL := n6_; have aC := n7_; have an := n8_; have ax := n9_; have ao := n10_; have ay := n11_; clear n0_ n1_ n2_ n3_ n4_ n5_ n6_ n7_ n8_ n9_ n10_ n11_; clear hb hbox hg; obtain ⟨aA, az, aQ⟩ := Kd.R_slice ai.out; subst aQ; have bB := ax.out; have bC := an.out; have bD := ay.out; have bE := ao.out; have bi := ck_ (v := (.slice none 0 0)) ae 0 rfl; have bj := ck_ (v := (.slice none 0 0)) ae 1 rfl; have bk := blk_frozen ae.out 0; have bl := blk_frozen ae.out 1; obtain ⟨aD, aB, aR⟩ := Kd.S_slice aj.out; subst aR) | ((with_reducible refine gate_callee (f := 35) rfl ?_); refine gL_ (some 8) Try.func35 #[.agg #[.slice aA ah.length az, .slice aD ak.length aB]] ?_; (with_reducible refine (spec_IsValidDfa.calls k _ _ ah _ _ ak false _ ?side1 ?side2 ?side3 ?side4 A3.out).mono ?_); (case side1 => refine (Kd.R_reads' (e := 4) (base := w.heap.size) (ok := fun k_ => True) (n := ah.length) (c := az) ?_).2.2; exact (rr_ (Kd.R_mono (Kd.R_far (p := ⟨ad, 1, none⟩) (Kd.R_far (p := ⟨ad, 0, none⟩) (Kd.R_types ai.out ae.out (by decide)) (fun _ hk => hk.2) (.slice aA ah.length az)) (fun _ hk => hk.2) (.slice aD ak.length aB)) (fun _ h_ => h_.1)))); (case side2 => exact (Kd.R_reads' ai.out).2.1); (case side3 => refine (Kd.S_reads' (e := 67) (base := w.heap.size) (ok := fun k_ => True) (n := ak.length) (c := aB) ?_).2.2; exact (rs_ (Kd.S_mono (Kd.S_far (p := ⟨ad, 1, none⟩) (Kd.S_far (p := ⟨ad, 0, none⟩) (Kd.S_types aj.out ae.out (by decide)) (fun _ hk => hk.2) (.slice aA ah.length az)) (fun _ hk => hk.2) (.slice aD ak.length aB)) (fun _ h_ => h_.1)))); (case side4 => exact (Kd.S_reads' aj.out).2.1); rintro e w30 ⟨rfl, hb⟩; refine ⟨_, rfl, ?_⟩; have n0_ := am_ (Kd.R_below (rr_ (Kd.R_mono (Kd.R_far (p := ⟨ad, 1, none⟩) (Kd.R_far (p := ⟨ad, 0, none⟩) (Kd.R_types ai.out ae.out (by decide)) (fun _ hk => hk.2) (.slice aA ah.length az)) (fun _ hk => hk.2) (.slice aD ak.length aB)) (fun _ h_ => h_.1))) hb); have n1_ := am_ (Kd.S_below (rs_ (Kd.S_mono (Kd.S_far (p := ⟨ad, 1, none⟩) (Kd.S_far (p := ⟨ad, 0, none⟩) (Kd.S_types aj.out ae.out (by decide)) (fun _ hk => hk.2) (.slice aA ah.length az)) (fun _ hk => hk.2) (.slice aD ak.length aB)) (fun _ h_ => h_.1))) hb); have n2_ := am_ (blk_below (g := am) (o := .cells #[.slice A0_0 l0_0.length c0_0, .slice A0_1 l0_1.length c0_1] 27 (0, 0)) (by refine rb_ ?_; refine blk_far ?_ an.out _; refine rb_ ?_; refine blk_far ?_ an.out _; refine rb_ ?_; exact aa.out) hb); have n3_ := am_ (blk_below (g := ag) (o := .cells #[.slice none 0 0, .slice none 0 0] 27 (0, 0)) (by refine rb_ ?_; refine blk_far ?_ ao.out _; refine rb_ ?_; refine blk_far ?_ ao.out _; refine rb_ ?_; exact ab.out) hb); have n4_ := am_ (blk_below (g := ad) (o := .cells #[.slice aA ah.length az, .slice aD ak.length aB] 27 (0, 0)) (by refine rb_ ?_; refine blk_put (cs := #[.slice aA ah.length az, .slice none 0 0]) ?_ 1 _ rfl; refine rb_ ?_; refine blk_put (cs := #[.slice none 0 0, .slice none 0 0]) ?_ 0 _ rfl; refine rb_ ?_; exact ae.out) hb); have n5_ := am_ (below_step (b3_ HB.out af.out al.out aC.out) hb); clear ai; clear aj; clear aa; clear ab; clear ae; clear HB; have ai := n0_; have aj := n1_; have aa := n2_; have ab := n3_; have ae := n4_; have HB := n5_; clear n0_ n1_ n2_ n3_ n4_ n5_; (try clear hb); (try clear hb2); (try clear hk); (try clear hi); have bm := ck_ (v := (.slice none 0 0)) ab 0 rfl; have bn := ck_ (v := (.slice none 0 0)) ab 1 rfl; have bo := blk_frozen ab.out 0; have bp := blk_frozen ab.out 1))
  refine bodyPost_ret (results_ct rfl _ _ ag 27 #[.slice none 0 0, .slice none 0 0] (0, 0) _ rfl (by refine rb_ ?_; refine blk_put (cs := #[.slice none 0 0, .slice none 0 0]) ?_ 1 _ rfl; refine rb_ ?_; refine blk_put (cs := #[.slice none 0 0, .slice none 0 0]) ?_ 0 _ rfl; refine rb_ ?_; exact ab.out) Try.underlying27 rfl (by kernel_rfl)) rfl ?_
  exact ⟨_, _, by first | rfl | (simp [errW_none, errW_some] <;> rfl) | (simp [*, errW_none, errW_some] <;> rfl), by first | exact Kd.R_nil _ _ _ _ _ | exact Kd.N_nil _ _ _ _ _ | exact Kd.V_nil _ _ _ _ _ | exact Kd.Q_nil _ _ _ _ _ | exact Kd.S_nil _ _ _ _ _, by first | exact Kd.S_nil _ _ _ _ _ | exact Kd.N_nil _ _ _ _ _ | exact Kd.V_nil _ _ _ _ _ | exact Kd.Q_nil _ _ _ _ _ | exact Kd.R_nil _ _ _ _ _, by repeat (first | (with_reducible first | exact HB.out | apply below_alloc | apply pw_below_drewN | apply below_drew1 | refine below_set ?_ af.out | refine below_set ?_ al.out | refine below_set ?_ aC.out) | exact HB.out)⟩
end Go.Proofs.Ytogamkblkoobkaa.P
end
section
namespace Go.Proofs.Ytogamkblkoobkaa.Can
open Go.RowKit Go.Proofs.Ytogamkblkoobkaa Go.Proofs.Ytogamkblkoobkaa.P Go.Proofs.Ytogamkblkoobkaa.Wk Go.Proofs.Ytogamkblkoobkaa.Lg Go.Proofs.Ytogamkblkoobkaa.Pl Go.Proofs.Ytogamkblkoobkaa.Mp Go.Proofs.Ytogamkblkoobkaa.Bf Go.Proofs.Ytogamkblkoobkaa.Mn Go.Proofs.YtogamkblkoobkaaW.PrintWords Go.Proofs.YtogamkblkoobkaaW.PrintLast Go.Proofs.YtogamkblkoobkaaW.PrintMore
set_option linter.unusedVariables false
set_option linter.unusedSimpArgs false
set_option linter.unusedSectionVars false
def nxZ (n m : List (List Int)) (nb : Nat) (z : Int) (j : Nat) : Int := nxD n (z / nb) j * nb + nxD m (z % nb) j
def acZ (kind : Int) (a b : List Bool) (z : Int) : Bool := bothB kind (rdOf false a (z / b.length)) (rdOf false b (z % b.length))
def domZ (N : Nat) (z : Int) : Prop := 0 ≤ z ∧ z < (N : Int)
section
variable {a b : List Bool} {n m : List (List Int)} {kind : Int}
theorem z_parts {na nb : Nat} (hb : 1 ≤ nb) {z : Int} (h : domZ (na * nb) z) : (0 ≤ z / (nb : Int) ∧ z / (nb : Int) < (na : Int)) ∧ 0 ≤ z % (nb : Int) ∧ z % (nb : Int) < (nb : Int) := by
  obtain ⟨h0, h1⟩ := h
  refine ⟨⟨Int.ediv_nonneg h0 (by omega), ?_⟩, Int.emod_nonneg _ (by omega), Int.emod_lt_of_pos _ (by omega)⟩
  apply Int.ediv_lt_of_lt_mul (by omega)
  rw [Int.natCast_mul] at h1
  exact h1
theorem z_make {na nb : Nat} {p q : Int} (hp : 0 ≤ p ∧ p < (na : Int)) (hq : 0 ≤ q ∧ q < (nb : Int)) : domZ (na * nb) (p * nb + q) ∧ (p * nb + q) / (nb : Int) = p ∧ (p * nb + q) % (nb : Int) = q := by
  obtain ⟨i, rfl⟩ : ∃ i : Nat, p = (i : Int) := ⟨p.toNat, by omega⟩
  obtain ⟨j, rfl⟩ : ∃ j : Nat, q = (j : Int) := ⟨q.toNat, by omega⟩
  have hi : i + 1 ≤ na := by omega
  have hle : (i + 1) * nb ≤ na * nb := Nat.mul_le_mul_right nb hi
  rw [Nat.succ_mul] at hle
  have e : (i : Int) * (nb : Int) + (j : Int) = ((i * nb + j : Nat) : Int) := by rw [Int.natCast_add, Int.natCast_mul]
  rw [e]
  refine ⟨⟨by omega, by omega⟩, ?_, ?_⟩
  · rw [← Int.natCast_ediv]
    congr 1
    rw [Nat.mul_comm, Nat.mul_add_div (by omega), Nat.div_eq_of_lt (by omega), Nat.add_zero]
  · rw [← Int.natCast_emod]
    congr 1
    rw [Nat.mul_comm, Nat.mul_add_mod, Nat.mod_eq_of_lt (by omega)]
theorem z_next (hv : validD a n = true) (hw : validD b m = true) {z : Int} (h : domZ (a.length * b.length) z) (j : Nat) (hj : j < 3) : (0 ≤ nxD n (z / b.length) j ∧ nxD n (z / b.length) j < (a.length : Int)) ∧ (0 ≤ nxD m (z % b.length) j ∧ nxD m (z % b.length) j < (b.length : Int)) ∧ domZ (a.length * b.length) (nxZ n m b.length z j) ∧ nxZ n m b.length z j / (b.length : Int) = nxD n (z / b.length) j ∧ nxZ n m b.length z j % (b.length : Int) = nxD m (z % b.length) j := by
  obtain ⟨g1, _⟩ := validD_facts hw
  have hp := z_parts g1 h
  have h1 := pair_dom hv hw (z / (b.length : Int), z % (b.length : Int)) j hp hj
  exact ⟨h1.1, h1.2, z_make h1.1 h1.2⟩
theorem z_sc (hv : validD a n = true) (hw : validD b m = true) : ∀ z, domZ (a.length * b.length) z → ∀ y ∈ sc (nxZ n m b.length) z, domZ (a.length * b.length) y := fun z hz y hy => by
  simp only [sc, tl, List.mem_cons, List.not_mem_nil, or_false] at hy
  rcases hy with rfl | rfl | rfl
  · exact (z_next hv hw hz 0 (by omega)).2.2.1
  · exact (z_next hv hw hz 1 (by omega)).2.2.1
  · exact (z_next hv hw hz 2 (by omega)).2.2.1
theorem z_zero (hv : validD a n = true) (hw : validD b m = true) : domZ (a.length * b.length) 0 := by
  obtain ⟨h1, _⟩ := validD_facts hv
  obtain ⟨g1, _⟩ := validD_facts hw
  have := Nat.mul_pos h1 g1
  exact ⟨Int.le_refl _, by omega⟩
theorem z_runs (hv : validD a n = true) (hw : validD b m = true) : ∃ R, Runs (sc (nxZ n m b.length)) [0] 0 R ∧ R.length ≤ 1600 := by
  have h0 : ∀ x ∈ [(0 : Int)], domZ (a.length * b.length) x := fun x hx => by rw [List.mem_singleton] at hx; subst hx; exact z_zero hv hw
  obtain ⟨h1, h2, _⟩ := validD_facts hv
  obtain ⟨g1, g2, _⟩ := validD_facts hw
  have hN : a.length * b.length ≤ 40 * 40 := Nat.mul_le_mul h2 g2
  obtain ⟨R, hR⟩ := Runs.ends (succ := sc (nxZ n m b.length)) (N := a.length * b.length) (z_sc hv hw) (fun s hn hs => card_n (a.length * b.length) s hn hs) (a.length * b.length) [0] 0 (by simp) h0 (by simp) (by omega)
  exact ⟨R, hR, Nat.le_trans (card_n (a.length * b.length) R (hR.nodup (by simp)) (hR.all (z_sc hv hw) h0)) (by omega)⟩
theorem z_fit (hv : validD a n = true) (hw : validD b m = true) (hk : kind = 6 ∨ kind = 7) {R : List Int} (hR : Runs (sc (nxZ n m b.length)) [0] 0 R) : fitD (R.map (acZ kind a b)) (R.map (rowX (nxZ n m b.length) R)) = pdR a n b m kind := by
  obtain ⟨g1, _⟩ := validD_facts hw
  obtain ⟨h1, _⟩ := validD_facts hv
  obtain ⟨q, he, hx, hau, hq⟩ := pd_some (kind := kind) hv hw
  have hz : Auto (acZ kind a b) (nxZ n m b.length) (0 : Int) (R.map (acZ kind a b)) (R.map (rowX (nxZ n m b.length) R)) := ⟨R, hR, rfl, rfl⟩
  have e1 := hz.lang (fun z w => bothB kind (run a n w (z / b.length)) (run b m w (z % b.length))) (dom := domZ (a.length * b.length)) (z_zero hv hw) (z_sc hv hw) (fun z _ => rfl) (fun z hz k w => by
    obtain ⟨_, _, _, e1, e2⟩ := z_next hv hw hz k.val k.isLt
    show bothB kind (run a n w (rd (rowOf n (z / b.length)) (k.val : Int))) (run b m w (rd (rowOf m (z % b.length)) (k.val : Int))) = bothB kind (run a n w (nxZ n m b.length z k.val / b.length)) (run b m w (nxZ n m b.length z k.val % b.length))
    rw [e1, e2]
    rfl)
  have e2 := hau.lang (fun x w => bothB kind (run a n w x.1) (run b m w x.2)) (dom := fun _ => True) trivial (fun _ _ _ _ => trivial) (fun x _ => rfl) (fun x _ k w => rfl)
  unfold pdR
  rw [if_pos ⟨⟨hv, hw⟩, hk⟩, hx]
  refine fitD_lang hz.rows.1 hz.rows.2 hau.rows.1 hau.rows.2 ?_
  rw [e1, e2]
  funext w
  show bothB kind (run a n w (0 / (b.length : Int))) (run b m w (0 % (b.length : Int))) = bothB kind (run a n w 0) (run b m w 0)
  rw [Int.zero_ediv, Int.zero_emod]
theorem spec_fit {A : List Bool} {M : List (List Int)} (h1 : 1 ≤ A.length) (h2 : A.length ≤ 1000000) (h3 : Rows3 A.length M) : Ev (fun k => spec_l5Fits.f k A M) (fitD A M) := by
  simp only [spec_l5Fits.f]
  refine Ev.bind (min_same (fits_rows h3) h1 (by omega)) ?_
  have hc := (min_can (fits_rows h3) (st := 0) (by omega)).facts
  have hl := minD_len (fits_rows h3) (st := 0) (by omega)
  unfold fitD
  generalize minD A M 0 = mm at hc hl ⊢
  refine Ev.bind (spec_valid _ _ (by omega) (by omega)) ?_
  by_cases h : mm.1.length ≤ 40
  · have hv := valid_of hc.1 h hc.2.1
    simp only [hv, if_true, if_pos h]
    exact Ev.now _
  · have hv : validD mm.1 mm.2 = false := by
      cases hv : validD mm.1 mm.2 with
      | false => rfl
      | true => exact absurd (validD_facts hv).2.1 h
    simp only [hv, Bool.false_eq_true, if_false, if_neg h]
    exact Ev.now _
end
theorem find_in {L : List Int} {y : Int} (h : y ∈ L) : findOf L y = num L y := by
  unfold findOf
  rw [if_pos h, num_eq h]
end Go.Proofs.Ytogamkblkoobkaa.Can
end
