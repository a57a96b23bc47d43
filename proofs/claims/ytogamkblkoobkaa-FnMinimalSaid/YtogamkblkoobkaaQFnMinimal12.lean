/- The law FnMinimal holds for every input. No condition. -/
import Derived.Test.YtogamkblkoobkaaQFnMinimal6
import Derived.Test.YtogamkblkoobkaaQFnMinimal2
import Derived.Test.YtogamkblkoobkaaQFnMinimal3
import Derived.Deep.Slices
import Derived.Lib.SmallJoins
import Derived.Test.YtogamkblkoobkaaQFnMinimal7
import Derived.Test.YtogamkblkoobkaaQFnMinimal8
import Derived.Test.YtogamkblkoobkaaQFnMinimal4
import Derived.Test.YtogamkblkoobkaaQFnMinimal10
import Derived.Test.YtogamkblkoobkaaQFnMinimal5
import Derived.Test.YtogamkblkoobkaaQFnMinimal9
import Derived.Test.YtogamkblkoobkaaQFnMinimal11
import Derived.SizedLaws
import Derived.ChangeSlices
import Derived.Test.YtogamkblkoobkaaRows
import Derived.WalkKit
import Derived.ProofKit
import Derived.OpenShut
import Derived.ShutString
import Derived.ChangeOld
import Derived.Below
section
namespace Go.Proofs.Ytogamkblkoobkaa.Can
open Go.RowKit Go.Proofs.Ytogamkblkoobkaa Go.Proofs.Ytogamkblkoobkaa.Lg Go.Proofs.Ytogamkblkoobkaa.Pl Go.Proofs.Ytogamkblkoobkaa.Mp Go.Proofs.Ytogamkblkoobkaa.Bf Go.Proofs.Ytogamkblkoobkaa.Mn Go.Proofs.YtogamkblkoobkaaW.PrintWords Go.Proofs.YtogamkblkoobkaaW.PrintLast Go.Proofs.YtogamkblkoobkaaW.PrintMore
set_option linter.unusedVariables false
set_option linter.unusedSimpArgs false
set_option linter.unusedSectionVars false
def Lan := List (Fin 3) → Bool
noncomputable instance decLan : DecidableEq Lan := fun _ _ => Classical.propDecidable _
instance : Inhabited Lan := ⟨fun _ => false⟩
def der (L : Lan) (k : Fin 3) : Lan := fun w => L (k :: w)
def lsucc (L : Lan) : List Lan := [der L 0, der L 1, der L 2]
def eps (L : Lan) : Bool := L []
noncomputable def outL (R : List Lan) : List Bool × List (List Int) := (R.map eps, R.map (fun X => (lsucc X).map (fun Y => (R.idxOf Y : Int))))
def IsCan (L : Lan) (out : List Bool × List (List Int)) : Prop := ∃ R, Runs lsucc [L] 0 R ∧ out = outL R
theorem IsCan.det {L : Lan} {a b : List Bool × List (List Int)} (h : IsCan L a) (h' : IsCan L b) : a = b := by
  obtain ⟨R, hR, rfl⟩ := h
  obtain ⟨R', hR', rfl⟩ := h'
  rw [hR.det hR']
structure Fits (acc : List Bool) (nx : List (List Int)) : Prop where
  len : nx.length = acc.length
  row : ∀ q : Int, 0 ≤ q ∧ q < (acc.length : Int) → (rowOf nx q).length = 3 ∧ ∀ x ∈ rowOf nx q, 0 ≤ x ∧ x < (acc.length : Int)
def run (acc : List Bool) (nx : List (List Int)) : List (Fin 3) → Int → Bool
  | [], q => rdOf false acc q
  | k :: w, q => run acc nx w (rd (rowOf nx q) (k.val : Int))
def lang (acc : List Bool) (nx : List (List Int)) (q : Int) : Lan := fun w => run acc nx w q
theorem three {r : List Int} (h : r.length = 3) : r = [rd r 0, rd r 1, rd r 2] := by
  match r, h with
  | [a, b, c], _ => rfl
theorem succ_lang {acc : List Bool} {nx : List (List Int)} (hf : Fits acc nx) {q : Int} (hq : 0 ≤ q ∧ q < (acc.length : Int)) : (rowOf nx q).map (lang acc nx) = lsucc (lang acc nx q) := by
  rw [three (hf.row q hq).1]
  rfl
section
variable {α β : Type} [DecidableEq α] [DecidableEq β]
theorem dd_map2 (f : α → β) (l : List α) : dd (l.map f) = dd ((dd l).map f) := (dd_adds f l []).symm
theorem dd_inj (g : α → β) (A : List α) (hg : ∀ a ∈ A, ∀ b ∈ A, g a = g b → a = b) : dd (A.map g) = (dd A).map g := by
  rw [dd_map2]
  refine dd_id ?_
  rw [List.nodup_iff_pairwise_ne, List.pairwise_map]
  refine (List.nodup_iff_pairwise_ne.mp (dd_nodup A)).imp_of_mem ?_
  intro a b ha hb hne h
  exact hne (hg a (mem_dd.mp ha) b (mem_dd.mp hb) h)
theorem idxOf_inj (g : α → β) : ∀ (R : List α) (a : α), (∀ b ∈ R, g b = g a → b = a) → (R.map g).idxOf (g a) = R.idxOf a
  | [], a, _ => rfl
  | b :: R, a, h => by
    rw [List.map_cons, List.idxOf_cons, List.idxOf_cons]
    rw [idxOf_inj g R a (fun c hc => h c (List.mem_cons_of_mem _ hc))]
    by_cases e : b = a
    · subst e
      rw [beq_self_eq_true, beq_self_eq_true]
    · have e2 : g b ≠ g a := fun h2 => e (h b List.mem_cons_self h2)
      rw [beq_eq_false_iff_ne.mpr e, beq_eq_false_iff_ne.mpr e2]
theorem nodup_of_dd : ∀ (l : List α), (dd l).length = l.length → l.Nodup := by
  intro l
  suffices H : ∀ (m k : List α), (adds k m).length = k.length + m.length → m.Nodup ∧ ∀ x ∈ m, x ∉ k by
    intro h
    exact (H l [] (by simpa [dd] using h)).1
  intro m
  induction m with
  | nil => intro k _; simp
  | cons y m ih =>
    intro k hk
    rw [adds_cons] at hk
    have hle : ∀ (m k : List α), (adds k m).length ≤ k.length + m.length := by
      intro m
      induction m with
      | nil => intro k; simp [adds_nil]
      | cons z m ih2 =>
        intro k
        rw [adds_cons]
        have := ih2 (add k z)
        have h2 : (add k z).length ≤ k.length + 1 := by unfold add; split <;> simp
        simp only [List.length_cons]
        omega
    by_cases hy : y ∈ k
    · rw [add_in hy] at hk
      have := hle m k
      simp only [List.length_cons] at hk
      omega
    · rw [add_out hy] at hk
      obtain ⟨h1, h2⟩ := ih (k ++ [y]) (by rw [hk]; simp; omega)
      refine ⟨List.nodup_cons.mpr ⟨fun hm => h2 y hm (by simp), h1⟩, fun x hx => ?_⟩
      rcases List.mem_cons.mp hx with rfl | hx
      · exact hy
      · exact fun hk => h2 x hx (by simp [hk])
theorem inj_of_len (f : α → β) (K : List α) (h : (dd (K.map f)).length = (dd K).length) : ∀ a ∈ K, ∀ b ∈ K, f a = f b → a = b := by
  rw [dd_map2] at h
  have h2 := nodup_of_dd ((dd K).map f) (by rw [h, List.length_map])
  intro a ha b hb hab
  obtain ⟨i, hi, rfl⟩ := List.mem_iff_getElem.mp (mem_dd.mpr ha)
  obtain ⟨j, hj, rfl⟩ := List.mem_iff_getElem.mp (mem_dd.mpr hb)
  have e1 := h2.idxOf_getElem i (by simpa using hi)
  have e2 := h2.idxOf_getElem j (by simpa using hj)
  rw [List.getElem_map] at e1 e2
  rw [hab, e2] at e1
  subst e1
  rfl
end
def Cf (os cl : List Int) (x : Int) : Int := rd cl (pl os x)
theorem pl_at {os : List Int} (hn : os.Nodup) (i : Nat) (hi : i < os.length) : pl os os[i] = (i : Int) := by
  have hm : os[i] ∈ os := List.getElem_mem hi
  show (idx os os[i]).getD 0 = _
  rw [← idx_val hm, hn.idxOf_getElem]
theorem Cf_at {os cl : List Int} (hn : os.Nodup) (hl : cl.length = os.length) (i : Nat) (hi : i < os.length) : Cf os cl os[i] = cl[i] := by
  unfold Cf
  rw [pl_at hn i hi, rd_get cl i (by omega)]
theorem cl_map {os cl : List Int} (hn : os.Nodup) (hl : cl.length = os.length) : os.map (Cf os cl) = cl := by
  apply List.ext_getElem
  · simp [hl]
  · intro i h1 h2
    rw [List.getElem_map, Cf_at hn hl]
def Kx (l1 : List (List Int)) (os cl : List Int) (x : Int) : K4 := (Cf os cl x, Cf os cl (rd (rowOf l1 x) 0), Cf os cl (rd (rowOf l1 x) 1), Cf os cl (rd (rowOf l1 x) 2))
theorem keys_map {l1 : List (List Int)} {os cl : List Int} (hn : os.Nodup) (hl : cl.length = os.length) : keys l1 os cl = os.map (Kx l1 os cl) := by
  apply List.ext_getElem
  · simp [keys]
  · intro i h1 h2
    have hi : i < os.length := by simpa [keys] using h1
    simp only [keys, List.getElem_map, List.getElem_range, keyAt, Kx]
    rw [Cf_at hn hl i hi]
    simp only [List.getD_eq_getElem?_getD, List.getElem?_eq_getElem hi, List.getElem?_eq_getElem (show i < cl.length by omega), Option.getD_some]
    rfl
def nmOf {α : Type} [DecidableEq α] (D : List α) (k : α) : Int := (D.idxOf k : Int)
theorem nm_snd {α : Type} [DecidableEq α] (K : List α) : (nmF K [] []).2 = K.map (nmOf (dd K)) := by rw [nm_eq]; rfl
theorem nm_fst {α : Type} [DecidableEq α] (K : List α) : (nmF K [] []).1 = dd K := by rw [nm_eq]
theorem idxOf_eq_iff {α : Type} [DecidableEq α] {l : List α} {a b : α} (ha : a ∈ l) (hb : b ∈ l) : l.idxOf a = l.idxOf b ↔ a = b := by
  constructor
  · intro h
    have h1 := List.getElem_idxOf (List.idxOf_lt_length_of_mem ha)
    have h2 := List.getElem_idxOf (List.idxOf_lt_length_of_mem hb)
    rw [← h1, ← h2]
    congr 1
  · rintro rfl; rfl
theorem nmOf_iff {α : Type} [DecidableEq α] {l : List α} {a b : α} (ha : a ∈ l) (hb : b ∈ l) : nmOf l a = nmOf l b ↔ a = b := by
  rw [← idxOf_eq_iff ha hb]
  unfold nmOf
  omega
theorem Cf_next {l1 : List (List Int)} {os cl : List Int} (hn : os.Nodup) (hl : cl.length = os.length) {x : Int} (hx : x ∈ os) : Cf os (nmF (keys l1 os cl) [] []).2 x = nmOf (dd (os.map (Kx l1 os cl))) (Kx l1 os cl x) := by
  obtain ⟨i, hi, rfl⟩ := List.mem_iff_getElem.mp hx
  rw [Cf_at hn (by rw [nm_snd]; simp [keys]) i hi]
  simp only [nm_snd, keys_map hn hl, List.getElem_map]
theorem next_iff {l1 : List (List Int)} {os cl : List Int} (hn : os.Nodup) (hl : cl.length = os.length) {x y : Int} (hx : x ∈ os) (hy : y ∈ os) :
    Cf os (nmF (keys l1 os cl) [] []).2 x = Cf os (nmF (keys l1 os cl) [] []).2 y ↔ Kx l1 os cl x = Kx l1 os cl y := by
  rw [Cf_next hn hl hx, Cf_next hn hl hy]
  exact nmOf_iff (mem_dd.mpr (List.mem_map_of_mem hx)) (mem_dd.mpr (List.mem_map_of_mem hy))
theorem ref_good {acc : List Bool} {l1 : List (List Int)} {os : List Int} (hf : Fits acc l1) (hn : os.Nodup) (hpos : 1 ≤ os.length) (hdom : ∀ x ∈ os, 0 ≤ x ∧ x < (acc.length : Int)) (hcl : ∀ x ∈ os, ∀ y ∈ rowOf l1 x, y ∈ os) :
    ∀ (d : Nat) (cl : List Int) (c : Nat), cl.length = os.length → (∀ x ∈ os, ∀ y ∈ os, lang acc l1 x = lang acc l1 y → Cf os cl x = Cf os cl y) → (∀ x ∈ os, ∀ y ∈ os, Cf os cl x = Cf os cl y → rdOf false acc x = rdOf false acc y) →
      (c = 0 ∨ c = (dd cl).length) → os.length + 2 ≤ d + c → ∀ cf, refF l1 os d cl c = cf → cf.length = os.length ∧ ∀ x ∈ os, ∀ y ∈ os, (Cf os cf x = Cf os cf y ↔ lang acc l1 x = lang acc l1 y) := by
  intro d
  induction d with
  | zero =>
    intro cl c hl h1 h2 hc hd cf
    have := dd_len_le cl
    omega
  | succ d ih =>
    intro cl c hl h1 h2 hc hd cf hcf
    have mem3 : ∀ x ∈ os, rd (rowOf l1 x) 0 ∈ os ∧ rd (rowOf l1 x) 1 ∈ os ∧ rd (rowOf l1 x) 2 ∈ os := fun x hx => by
      have h3 := three (hf.row x (hdom x hx)).1
      have := hcl x hx
      rw [h3] at this
      exact ⟨this _ (by simp), this _ (by simp), this _ (by simp)⟩
    have g1 : ∀ x ∈ os, ∀ y ∈ os, lang acc l1 x = lang acc l1 y → Cf os (nmF (keys l1 os cl) [] []).2 x = Cf os (nmF (keys l1 os cl) [] []).2 y := fun x hx y hy h => by
      rw [next_iff hn hl hx hy]
      unfold Kx
      rw [h1 x hx y hy h, h1 _ (mem3 x hx).1 _ (mem3 y hy).1 (congrArg (fun L => der L 0) h), h1 _ (mem3 x hx).2.1 _ (mem3 y hy).2.1 (congrArg (fun L => der L 1) h), h1 _ (mem3 x hx).2.2 _ (mem3 y hy).2.2 (congrArg (fun L => der L 2) h)]
    have g2 : ∀ x ∈ os, ∀ y ∈ os, Cf os (nmF (keys l1 os cl) [] []).2 x = Cf os (nmF (keys l1 os cl) [] []).2 y → rdOf false acc x = rdOf false acc y := fun x hx y hy h => by
      rw [next_iff hn hl hx hy] at h
      exact h2 x hx y hy (congrArg (fun k : K4 => k.1) h)
    have gl : (nmF (keys l1 os cl) [] []).2.length = os.length := by rw [nm_snd]; simp [keys]
    have hK1 : (nmF (keys l1 os cl) [] []).1.length = (dd (os.map (Kx l1 os cl))).length := by rw [nm_fst, keys_map hn hl]
    rw [refF] at hcf
    by_cases he : (nmF (keys l1 os cl) [] []).1.length = c
    · rw [if_pos he] at hcf
      subst hcf
      refine ⟨gl, fun x hx y hy => ⟨fun h => ?_, g1 x hx y hy⟩⟩
      have hpos2 : 0 < (dd (os.map (Kx l1 os cl))).length := by
        have : os ≠ [] := fun e => by rw [e] at hpos; simp at hpos
        obtain ⟨a, ha⟩ := List.exists_mem_of_ne_nil os this
        exact List.length_pos_of_mem (mem_dd.mpr (List.mem_map_of_mem ha))
      have hcd : c = (dd cl).length := by
        rcases hc with hc | hc
        · omega
        · exact hc
      have hfst : (os.map (Kx l1 os cl)).map (fun k : K4 => k.1) = cl := by
        rw [List.map_map]
        exact cl_map hn hl
      have hinj := inj_of_len (fun k : K4 => k.1) (os.map (Kx l1 os cl)) (by rw [hfst]; omega)
      have hst : ∀ x ∈ os, ∀ y ∈ os, Cf os cl x = Cf os cl y → Kx l1 os cl x = Kx l1 os cl y := fun x hx y hy h => hinj _ (List.mem_map_of_mem hx) _ (List.mem_map_of_mem hy) h
      have hrun : ∀ w : List (Fin 3), ∀ x ∈ os, ∀ y ∈ os, Cf os cl x = Cf os cl y → run acc l1 w x = run acc l1 w y := by
        intro w
        induction w with
        | nil => exact h2
        | cons k w ihw =>
          intro x hx y hy hxy
          have hk := hst x hx y hy hxy
          unfold Kx at hk
          injection hk with _ hk
          injection hk with hk0 hk
          injection hk with hk1 hk2
          match k with
          | 0 => exact ihw _ (mem3 x hx).1 _ (mem3 y hy).1 hk0
          | 1 => exact ihw _ (mem3 x hx).2.1 _ (mem3 y hy).2.1 hk1
          | 2 => exact ihw _ (mem3 x hx).2.2 _ (mem3 y hy).2.2 hk2
      rw [next_iff hn hl hx hy] at h
      have h0 : Cf os cl x = Cf os cl y := congrArg (fun k : K4 => k.1) h
      exact funext fun w => hrun w x hx y hy h0
    · rw [if_neg he] at hcf
      have hmore := keys_more (l1 := l1) hl
      rw [keys_map hn hl] at hmore
      have hlen2 : (nmF (keys l1 os cl) [] []).1.length = (dd (nmF (keys l1 os cl) [] []).2).length := by rw [nm_classes, nm_fst]
      refine ih _ _ gl g1 g2 (Or.inr hlen2) ?_ cf hcf
      rcases hc with hc | hc
      · have hpos2 : 0 < (dd (os.map (Kx l1 os cl))).length := by
          have : os ≠ [] := fun e => by rw [e] at hpos; simp at hpos
          obtain ⟨a, ha⟩ := List.exists_mem_of_ne_nil os this
          exact List.length_pos_of_mem (mem_dd.mpr (List.mem_map_of_mem ha))
        omega
      · omega
theorem card_n (n : Nat) (s : List Int) (hn : s.Nodup) (h : ∀ x ∈ s, 0 ≤ x ∧ x < n) : s.length ≤ n := by
  have := nodup_len s ((List.range n).map fun (i : Nat) => (i : Int)) hn (fun x hx => by
    have := h x hx
    exact List.mem_map.mpr ⟨x.toNat, List.mem_range.mpr (by omega), by omega⟩)
  simpa using this
theorem ord_runs {acc : List Bool} {l1 : List (List Int)} (hf : Fits acc l1) : ∀ (d : Nat) (L : List Int) (i : Nat), L.Nodup → (∀ x ∈ L, 0 ≤ x ∧ x < (acc.length : Int)) → acc.length ≤ d + i → Runs (rowOf l1) L i (ordF l1 d L i)
  | 0, L, i, hn, ha, hd => .stop (by have := card_n acc.length L hn ha; omega)
  | d + 1, L, i, hn, ha, hd => by
    rw [ordF]
    by_cases h : i < L.length
    · rw [dif_pos h]
      refine .step h (ord_runs hf d _ _ (nodup_adds _ hn) (fun x hx => ?_) (by omega))
      rcases mem_adds.mp hx with q | q
      · exact ha x q
      · exact (hf.row _ (ha _ (List.getElem_mem h))).2 x q
    · rw [dif_neg h]
      exact .stop (by omega)
theorem ld_good (cl : List Int) : ∀ (m : List Int) (i : Nat) (ns ls : List Int), m = cl.drop i → ns = dd (cl.take i) → ls.map (rd cl) = ns → (∀ x ∈ ls, 0 ≤ x ∧ x < (cl.length : Int)) →
    (ldF m i ns ls).1 = dd cl ∧ (ldF m i ns ls).2.map (rd cl) = dd cl ∧ ∀ x ∈ (ldF m i ns ls).2, 0 ≤ x ∧ x < (cl.length : Int)
  | [], i, ns, ls, hm, hns, hls, hb => by
    have hi : cl.length ≤ i := by
      have := congrArg List.length hm
      simp only [List.length_nil, List.length_drop] at this
      omega
    rw [List.take_of_length_le hi] at hns
    rw [ldF, ← hns]
    exact ⟨rfl, hls, hb⟩
  | c :: m, i, ns, ls, hm, hns, hls, hb => by
    have hi : i < cl.length := by
      have := congrArg List.length hm
      simp only [List.length_cons, List.length_drop] at this
      omega
    rw [List.drop_eq_getElem_cons hi] at hm
    injection hm with hc hm
    have ht : dd (cl.take (i + 1)) = add ns c := by rw [List.take_succ_eq_append_getElem hi, dd_snoc, ← hns, hc]
    rw [ldF]
    by_cases h : c ∈ ns
    · rw [if_pos h]
      exact ld_good cl m (i + 1) ns ls hm (by rw [ht, add_in h]) hls hb
    · rw [if_neg h]
      refine ld_good cl m (i + 1) _ _ hm (by rw [ht, add_out h]) ?_ ?_
      · rw [List.map_append, hls, List.map_singleton, rd_get cl i hi, hc]
      · intro x hx
        rcases List.mem_append.mp hx with q | q
        · exact hb x q
        · rw [List.mem_singleton] at q; subst q; omega
theorem min_can {acc : List Bool} {l1 : List (List Int)} (hf : Fits acc l1) {st : Int} (hst : 0 ≤ st ∧ st < (acc.length : Int)) : IsCan (lang acc l1 st) (minD acc l1 st) := by
  have h0 : ∀ x ∈ [st], 0 ≤ x ∧ x < (acc.length : Int) := fun x hx => by rw [List.mem_singleton] at hx; subst hx; exact hst
  have hR := ord_runs hf (acc.length + 2) [st] 0 (by simp) h0 (by omega)
  unfold minD minT
  generalize ordF l1 (acc.length + 2) [st] 0 = os at hR
  have hn : os.Nodup := hR.nodup (by simp)
  have hdom := hR.all (p := fun x => 0 ≤ x ∧ x < (acc.length : Int)) (fun x hx y hy => (hf.row x hx).2 y hy) h0
  have hcl := hR.closed (fun j _ hj => by omega)
  have hpos : 1 ≤ os.length := hR.pre.length_le
  have hcan := hR.map0 (dom := fun x => 0 ≤ x ∧ x < (acc.length : Int)) (succ' := lsucc) (f := lang acc l1) (fun x hx y hy => (hf.row x hx).2 y hy) (fun x hx => succ_lang hf hx) hst
  have hl0 : (os.map (cls0 acc)).length = os.length := by simp
  have hc0 : ∀ x ∈ os, Cf os (os.map (cls0 acc)) x = cls0 acc x := fun x hx => by
    obtain ⟨i, hi, rfl⟩ := List.mem_iff_getElem.mp hx
    rw [Cf_at hn hl0 i hi, List.getElem_map]
  obtain ⟨hcl2, hiff⟩ := ref_good hf hn hpos hdom hcl (os.length + 2) (os.map (cls0 acc)) 0 hl0 (fun x hx y hy h => by
    rw [hc0 x hx, hc0 y hy]
    have : rdOf false acc x = rdOf false acc y := congrFun h []
    unfold cls0
    rw [this]) (fun x hx y hy h => by
    rw [hc0 x hx, hc0 y hy] at h
    unfold cls0 at h
    cases hx : rdOf false acc x <;> cases hy : rdOf false acc y <;> simp [hx, hy] at h ⊢) (Or.inl rfl) (by omega) _ rfl
  generalize refF l1 os (os.length + 2) (os.map (cls0 acc)) 0 = cf at hcl2 hiff
  obtain ⟨e1, e2, e3⟩ := ld_good cf cf 0 [] [] rfl rfl rfl (fun x hx => by cases hx)
  unfold outD
  generalize hns : (ldF cf 0 [] []).1 = ns at e1
  generalize hls : (ldF cf 0 [] []).2 = ls at e2 e3
  have hg : ∃ g : Int → Lan, ∀ x ∈ os, g (Cf os cf x) = lang acc l1 x := by
    refine ⟨fun c => lang acc l1 (rd os ((cf.idxOf c : Nat) : Int)), fun x hx => ?_⟩
    obtain ⟨i, hi, rfl⟩ := List.mem_iff_getElem.mp hx
    rw [Cf_at hn hcl2 i hi]
    have hm : cf[i] ∈ cf := List.getElem_mem (by omega)
    have hlt := List.idxOf_lt_length_of_mem hm
    have hat : cf[cf.idxOf cf[i]] = cf[i] := List.getElem_idxOf hlt
    show lang acc l1 (rd os ((cf.idxOf cf[i] : Nat) : Int)) = _
    rw [rd_get os _ (by omega)]
    refine (hiff _ (List.getElem_mem _) _ (List.getElem_mem hi)).mp ?_
    rw [Cf_at hn hcl2, Cf_at hn hcl2 i hi, hat]
  obtain ⟨g, hg⟩ := hg
  have hgc : cf.map g = os.map (lang acc l1) := by
    conv => lhs; rw [← cl_map hn hcl2]
    rw [List.map_map]
    exact List.map_congr_left fun x hx => hg x hx
  have hmem : ∀ c ∈ cf, ∃ x ∈ os, c = Cf os cf x := fun c hc => by
    rw [← cl_map hn hcl2] at hc
    obtain ⟨x, hx, rfl⟩ := List.mem_map.mp hc
    exact ⟨x, hx, rfl⟩
  have hinj : ∀ a ∈ cf, ∀ b ∈ cf, g a = g b → a = b := fun a ha b hb h => by
    obtain ⟨x, hx, rfl⟩ := hmem a ha
    obtain ⟨y, hy, rfl⟩ := hmem b hb
    rw [hg x hx, hg y hy] at h
    exact (hiff x hx y hy).mpr h
  have hdd : dd (os.map (lang acc l1)) = (dd cf).map g := by rw [← hgc]; exact dd_inj g cf hinj
  have hgi : ∀ i ∈ ls, rd os i ∈ os ∧ g (rd cf i) = lang acc l1 (rd os i) := fun i hi => by
    have hb := e3 i hi
    have ht : i.toNat < os.length := by omega
    have h1 := rd_get os i.toNat ht
    have h2 := rd_get cf i.toNat (by omega)
    rw [Int.toNat_of_nonneg hb.1] at h1 h2
    rw [h1, h2, ← Cf_at hn hcl2 i.toNat ht]
    exact ⟨List.getElem_mem ht, hg _ (List.getElem_mem ht)⟩
  have hR2 : dd (os.map (lang acc l1)) = ls.map (fun i => lang acc l1 (rd os i)) := by
    rw [hdd, ← e2, List.map_map]
    exact List.map_congr_left fun i hi => (hgi i hi).2
  refine ⟨_, hcan, ?_⟩
  unfold outL
  refine Prod.ext ?_ ?_
  · show ls.map _ = _
    rw [hR2, List.map_map]
    rfl
  · have hh : ∀ F : Lan → List Int, (dd (os.map (lang acc l1))).map F = ls.map (fun i => F (lang acc l1 (rd os i))) := fun F => by rw [hR2, List.map_map]; rfl
    show ls.map (outRow l1 os cf ns) = (dd (os.map (lang acc l1))).map _
    rw [hh]
    refine List.map_congr_left fun i hi => ?_
    have hx := (hgi i hi).1
    show outRow l1 os cf ns i = (lsucc (lang acc l1 (rd os i))).map _
    rw [← succ_lang hf (hdom _ hx), List.map_map]
    unfold outRow
    refine List.map_congr_left fun y hy => ?_
    have hyo := hcl _ hx y hy
    show (idx ns (Cf os cf y)).getD 0 = ((dd (os.map (lang acc l1))).idxOf (lang acc l1 y) : Int)
    have hcm : Cf os cf y ∈ cf := by
      have h1 : Cf os cf y ∈ os.map (Cf os cf) := List.mem_map_of_mem hyo
      rw [cl_map hn hcl2] at h1
      exact h1
    rw [e1, ← idx_val (mem_dd.mpr hcm), hdd, ← hg y hyo, idxOf_inj g (dd cf) _ (fun b hb h => hinj b (mem_dd.mp hb) _ hcm h)]
end Go.Proofs.Ytogamkblkoobkaa.Can
end
section
namespace Go.Proofs.Ytogamkblkoobkaa.Can
open Go.RowKit Go.Proofs.Ytogamkblkoobkaa Go.Proofs.Ytogamkblkoobkaa.Lg Go.Proofs.Ytogamkblkoobkaa.Pl Go.Proofs.Ytogamkblkoobkaa.Mp Go.Proofs.Ytogamkblkoobkaa.Bf Go.Proofs.Ytogamkblkoobkaa.Mn Go.Proofs.YtogamkblkoobkaaW.PrintWords Go.Proofs.YtogamkblkoobkaaW.PrintLast Go.Proofs.YtogamkblkoobkaaW.PrintMore
set_option linter.unusedVariables false
set_option linter.unusedSimpArgs false
set_option linter.unusedSectionVars false
def trunc (r : Nat) (L : Lan) : Lan := fun w => if w.length ≤ r then L w else false
theorem trunc_trunc (r : Nat) (L : Lan) : trunc r (trunc (r + 1) L) = trunc r L := by
  funext w
  unfold trunc
  by_cases h : w.length ≤ r
  · rw [if_pos h, if_pos h, if_pos (by omega)]
  · rw [if_neg h, if_neg h]
theorem trunc_zero {L M : Lan} : trunc 0 L = trunc 0 M ↔ eps L = eps M := by
  constructor
  · intro h
    exact congrFun h []
  · intro h
    funext w
    unfold trunc
    by_cases hw : w.length ≤ 0
    · rw [if_pos hw, if_pos hw]
      have : w = [] := List.length_eq_zero_iff.mp (by omega)
      subst this
      exact h
    · rw [if_neg hw, if_neg hw]
theorem trunc_succ {r : Nat} {L M : Lan} : trunc (r + 1) L = trunc (r + 1) M ↔ eps L = eps M ∧ ∀ k, trunc r (der L k) = trunc r (der M k) := by
  constructor
  · intro h
    refine ⟨congrFun h [], fun k => funext fun w => ?_⟩
    have := congrFun h (k :: w)
    unfold trunc at this ⊢
    by_cases hw : w.length ≤ r
    · rw [if_pos (by simp; omega), if_pos (by simp; omega)] at this
      rw [if_pos hw, if_pos hw]
      exact this
    · rw [if_neg hw, if_neg hw]
  · rintro ⟨h0, h⟩
    funext w
    cases w with
    | nil => exact h0
    | cons k w =>
      have := congrFun (h k) w
      unfold trunc at this ⊢
      by_cases hw : w.length ≤ r
      · rw [if_pos hw, if_pos hw] at this
        rw [if_pos (by simp; omega), if_pos (by simp; omega)]
        exact this
      · rw [if_neg (by simp; omega), if_neg (by simp; omega)]
theorem lan_of_trunc {L M : Lan} (h : ∀ r, trunc r L = trunc r M) : L = M := by
  funext w
  have := congrFun (h w.length) w
  unfold trunc at this
  rw [if_pos (Nat.le_refl _), if_pos (Nat.le_refl _)] at this
  exact this
section
variable {acc : List Bool} {nx : List (List Int)}
def sig (acc : List Bool) (nx : List (List Int)) (r : Nat) (q : Int) : Lan := trunc r (lang acc nx q)
theorem sig_zero {p q : Int} : sig acc nx 0 p = sig acc nx 0 q ↔ rdOf false acc p = rdOf false acc q := trunc_zero
theorem sig_succ {r : Nat} {p q : Int} : sig acc nx (r + 1) p = sig acc nx (r + 1) q ↔ rdOf false acc p = rdOf false acc q ∧ ∀ k : Fin 3, sig acc nx r (rd (rowOf nx p) (k.val : Int)) = sig acc nx r (rd (rowOf nx q) (k.val : Int)) := trunc_succ
theorem sig_down {r : Nat} {p q : Int} (h : sig acc nx (r + 1) p = sig acc nx (r + 1) q) : sig acc nx r p = sig acc nx r q := by
  have := congrArg (trunc r) h
  unfold sig at this ⊢
  rw [trunc_trunc, trunc_trunc] at this
  exact this
def states (n : Nat) : List Int := (List.range n).map fun (i : Nat) => (i : Int)
theorem mem_states {n : Nat} {q : Int} : q ∈ states n ↔ 0 ≤ q ∧ q < (n : Int) := by
  unfold states
  rw [List.mem_map]
  constructor
  · rintro ⟨i, hi, rfl⟩
    rw [List.mem_range] at hi
    omega
  · intro h
    exact ⟨q.toNat, List.mem_range.mpr (by omega), by omega⟩
theorem rd_mem {r : List Int} (h : r.length = 3) (k : Fin 3) : rd r (k.val : Int) ∈ r := by
  rw [rd_get r k.val (by omega)]
  exact List.getElem_mem _
theorem sig_stable (hf : Fits acc nx) {r : Nat} (h : ∀ p ∈ states acc.length, ∀ q ∈ states acc.length, sig acc nx r p = sig acc nx r q → sig acc nx (r + 1) p = sig acc nx (r + 1) q) :
    ∀ d : Nat, ∀ p ∈ states acc.length, ∀ q ∈ states acc.length, sig acc nx r p = sig acc nx r q → sig acc nx (r + d) p = sig acc nx (r + d) q := by
  have hstep : ∀ d : Nat, ∀ p ∈ states acc.length, ∀ q ∈ states acc.length, sig acc nx (r + d) p = sig acc nx (r + d) q → sig acc nx (r + d + 1) p = sig acc nx (r + d + 1) q := by
    intro d
    induction d with
    | zero => exact h
    | succ d ih =>
      intro p hp q hq hpq
      rw [sig_succ]
      have h1 := sig_succ.mp hpq
      refine ⟨h1.1, fun k => ?_⟩
      have hp3 := hf.row p (mem_states.mp hp)
      have hq3 := hf.row q (mem_states.mp hq)
      exact ih _ (mem_states.mpr (hp3.2 _ (rd_mem hp3.1 k))) _ (mem_states.mpr (hq3.2 _ (rd_mem hq3.1 k))) (h1.2 k)
  intro d
  induction d with
  | zero => exact fun p hp q hq h => h
  | succ d ih => exact fun p hp q hq h => hstep d p hp q hq (ih p hp q hq h)
theorem sig_all (hf : Fits acc nx) {m : Nat} (hm : acc.length ≤ m) {p q : Int} (hp : 0 ≤ p ∧ p < (acc.length : Int)) (hq : 0 ≤ q ∧ q < (acc.length : Int)) : sig acc nx m p = sig acc nx m q ↔ lang acc nx p = lang acc nx q := by
  constructor
  · intro h
    have hex : ∃ r, r ≤ m ∧ ∀ p ∈ states acc.length, ∀ q ∈ states acc.length, sig acc nx r p = sig acc nx r q → sig acc nx (r + 1) p = sig acc nx (r + 1) q := by
      refine Classical.byContradiction fun hno => ?_
      have hlt : ∀ r, r ≤ m → (dd ((states acc.length).map (sig acc nx r))).length < (dd ((states acc.length).map (sig acc nx (r + 1)))).length := by
        intro r hr
        have e : (states acc.length).map (sig acc nx r) = ((states acc.length).map (sig acc nx (r + 1))).map (trunc r) := by
          rw [List.map_map]
          exact List.map_congr_left fun x _ => (trunc_trunc r (lang acc nx x)).symm
        have hle := dd_map_le (trunc r) ((states acc.length).map (sig acc nx (r + 1)))
        rw [← e] at hle
        refine Nat.lt_of_le_of_ne hle fun heq => hno ⟨r, hr, fun p hp q hq hpq => ?_⟩
        refine inj_of_len (trunc r) _ (by rw [← e]; exact heq) _ (List.mem_map_of_mem hp) _ (List.mem_map_of_mem hq) ?_
        show trunc r (trunc (r + 1) _) = trunc r (trunc (r + 1) _)
        rw [trunc_trunc, trunc_trunc]
        exact hpq
      have hge : ∀ r, r ≤ m + 1 → r ≤ (dd ((states acc.length).map (sig acc nx r))).length := by
        intro r
        induction r with
        | zero => intro _; exact Nat.zero_le _
        | succ r ih =>
          intro hr
          have := hlt r (by omega)
          have := ih (by omega)
          omega
      have h1 := hge (m + 1) (Nat.le_refl _)
      have h2 := dd_len_le ((states acc.length).map (sig acc nx (m + 1)))
      have h3 : ((states acc.length).map (sig acc nx (m + 1))).length = acc.length := by simp [states]
      omega
    obtain ⟨r, hr, hst⟩ := hex
    have h0 : sig acc nx r p = sig acc nx r q := by
      obtain ⟨d, rfl⟩ : ∃ d, m = r + d := ⟨m - r, by omega⟩
      clear hst hr hm
      induction d with
      | zero => exact h
      | succ d ih => exact ih (sig_down h)
    refine lan_of_trunc fun s => ?_
    have h1 := sig_stable hf hst s p (mem_states.mpr hp) q (mem_states.mpr hq) h0
    have hdown : ∀ d t : Nat, sig acc nx (t + d) p = sig acc nx (t + d) q → sig acc nx t p = sig acc nx t q := by
      intro d
      induction d with
      | zero => exact fun t h => h
      | succ d ih => exact fun t h => ih t (sig_down h)
    exact hdown r s (by rw [Nat.add_comm]; exact h1)
  · intro h
    unfold sig
    rw [h]
end
end Go.Proofs.Ytogamkblkoobkaa.Can
end
section
namespace Go.Proofs.Ytogamkblkoobkaa.Can
open Go.RowKit Go.Proofs.Ytogamkblkoobkaa Go.Proofs.Ytogamkblkoobkaa.P Go.Proofs.Ytogamkblkoobkaa.Lg Go.Proofs.Ytogamkblkoobkaa.Pl Go.Proofs.Ytogamkblkoobkaa.Mp Go.Proofs.Ytogamkblkoobkaa.Bf Go.Proofs.Ytogamkblkoobkaa.Mn Go.Proofs.YtogamkblkoobkaaW.PrintWords Go.Proofs.YtogamkblkoobkaaW.PrintLast Go.Proofs.YtogamkblkoobkaaW.PrintMore
set_option linter.unusedVariables false
set_option linter.unusedSimpArgs false
set_option linter.unusedSectionVars false
def findOf (l : List Int) (x : Int) : Int := if x ∈ l then (l.idxOf x : Int) else -1
theorem find_l0 (l : List Int) (x : Int) (hl : l.length ≤ 2000000) : ∀ d i : Nat, i + d = l.length → x ∉ l.take i → Ev (fun k => spec_l5Find.l0 k l x i) (findOf l x) := by
  intro d
  induction d with
  | zero =>
    intro i h hx
    refine next ?_
    simp only [spec_l5Find.l0, if_neg (show ¬ (i : Int) < (l.length : Int) by omega)]
    rw [List.take_of_length_le (by omega)] at hx
    exact ev_some (by unfold findOf; rw [if_neg hx])
  | succ d ih =>
    intro i h hx
    have hi : i < l.length := by omega
    refine next ?_
    simp only [spec_l5Find.l0, if_pos (show (i : Int) < (l.length : Int) by omega), if_pos (show (0 : Int) ≤ (i : Int) by omega), rd_get l i hi]
    by_cases e : l[i] = x
    · simp only [if_pos e]
      refine ev_some ?_
      have hm : x ∈ l := e ▸ List.getElem_mem hi
      unfold findOf
      rw [if_pos hm]
      have : l.idxOf x = i := by
        conv => lhs; rw [← List.take_append_drop i l, List.drop_eq_getElem_cons hi]
        rw [List.idxOf_append, if_neg hx, e, List.idxOf_cons_self]
        simp
        omega
      rw [this]
    · simp only [if_neg e]
      rw [up1 (by omega)]
      refine ih (i + 1) (by omega) ?_
      rw [List.take_succ_eq_append_getElem hi]
      intro hm
      rcases List.mem_append.mp hm with q | q
      · exact hx q
      · rw [List.mem_singleton] at q
        exact e q.symm
theorem find_ev (l : List Int) (x : Int) (hl : l.length ≤ 2000000) : Ev (fun k => spec_l5Find.f k l x) (findOf l x) := find_l0 l x hl l.length 0 (by omega) (by simp)
def eqAt (nx : List (List Int)) (cl : List Int) (p q : Int) (j : Int) : Bool := rd cl (rd (rowOf nx p) j) == rd cl (rd (rowOf nx q) j)
def sameB (nx : List (List Int)) (cl : List Int) (p q : Int) : Bool := (((rd cl p == rd cl q) && eqAt nx cl p q 0) && eqAt nx cl p q 1) && eqAt nx cl p q 2
theorem sameB_iff {nx : List (List Int)} {cl : List Int} {p q : Int} : sameB nx cl p q = true ↔ rd cl p = rd cl q ∧ ∀ k : Fin 3, rd cl (rd (rowOf nx p) (k.val : Int)) = rd cl (rd (rowOf nx q) (k.val : Int)) := by
  unfold sameB eqAt
  simp only [Bool.and_eq_true, beq_iff_eq]
  constructor
  · rintro ⟨⟨⟨h, h0⟩, h1⟩, h2⟩
    refine ⟨h, fun k => ?_⟩
    match k with
    | 0 => exact h0
    | 1 => exact h1
    | 2 => exact h2
  · rintro ⟨h, hk⟩
    exact ⟨⟨⟨h, hk 0⟩, hk 1⟩, hk 2⟩
section
variable {acc : List Bool} {nx : List (List Int)} {cl : List Int}
theorem same_step (hf : Fits acc nx) (hcl : cl.length = acc.length) {p q : Int} (hp : 0 ≤ p ∧ p < (acc.length : Int)) (hq : 0 ≤ q ∧ q < (acc.length : Int)) (b : Bool) (j : Nat) (hj : j < 3) {r : Bool}
    (h : Ev (fun k => spec_l5Same.l0 k cl p q (b && eqAt nx cl p q j) ((j + 1 : Nat) : Int) acc nx) r) : Ev (fun k => spec_l5Same.l0 k cl p q b (j : Int) acc nx) r := by
  refine next ?_
  have h1 : (rd_L1 nx p).length = 3 ∧ ∀ x ∈ rd_L1 nx p, 0 ≤ x ∧ x < (acc.length : Int) := hf.row p hp
  have h2 : (rd_L1 nx q).length = 3 ∧ ∀ x ∈ rd_L1 nx q, 0 ≤ x ∧ x < (acc.length : Int) := hf.row q hq
  have hl := hf.len
  have e1 := h1.2 _ (rd_mem h1.1 ⟨j, hj⟩)
  have e2 := h2.2 _ (rd_mem h2.1 ⟨j, hj⟩)
  dsimp only at e1 e2
  cases b with
  | true =>
    simp only [spec_l5Same.l0, if_pos (show (j : Int) < 3 by omega), if_pos hp.1, if_pos hq.1, if_pos (show p < (nx.length : Int) by omega), if_pos (show q < (nx.length : Int) by omega), if_pos (show (0 : Int) ≤ (j : Int) by omega), if_pos (show (j : Int) < ((rd_L1 nx p).length : Int) by omega), if_pos (show (j : Int) < ((rd_L1 nx q).length : Int) by omega), if_pos e1.1, if_pos e2.1, if_pos (show rd (rd_L1 nx p) (j : Int) < (cl.length : Int) by omega), if_pos (show rd (rd_L1 nx q) (j : Int) < (cl.length : Int) by omega), if_true]
    rw [up1 (by omega)]
    exact h
  | false =>
    simp only [spec_l5Same.l0, if_pos (show (j : Int) < 3 by omega), if_neg (show ¬ false = true by decide)]
    rw [up1 (by omega)]
    exact h
theorem same_ev (hf : Fits acc nx) (hcl : cl.length = acc.length) {p q : Int} (hp : 0 ≤ p ∧ p < (acc.length : Int)) (hq : 0 ≤ q ∧ q < (acc.length : Int)) : Ev (fun k => spec_l5Same.f k acc nx cl p q) (sameB nx cl p q) := by
  have hl := hf.len
  have h0 : Ev (fun k => spec_l5Same.l0 k cl p q (rd cl p == rd cl q) ((0 : Nat) : Int) acc nx) (sameB nx cl p q) := by
    refine same_step hf hcl hp hq _ 0 (by omega) (same_step hf hcl hp hq _ 1 (by omega) (same_step hf hcl hp hq _ 2 (by omega) ?_))
    refine next ?_
    simp only [spec_l5Same.l0, if_neg (show ¬ ((2 + 1 : Nat) : Int) < 3 by decide)]
    exact ev_some rfl
  refine h0.congr fun k => ?_
  simp only [spec_l5Same.f, if_pos hp.1, if_pos hq.1, if_pos (show p < (cl.length : Int) by omega), if_pos (show q < (cl.length : Int) by omega)]
  rfl
def cl0 (acc : List Bool) : List Int := acc.map fun b => if b = true then 1 else 0
def leastF (nx : List (List Int)) (cl : List Int) (q : Nat) : Int := (((List.range q).find? (fun p : Nat => sameB nx cl (p : Int) (q : Int))).getD q : Nat)
def refS (nx : List (List Int)) (cl : List Int) : List Int := (List.range cl.length).map (leastF nx cl)
def iterS (nx : List (List Int)) : Nat → List Int → List Int
  | 0, cl => cl
  | d + 1, cl => iterS nx d (refS nx cl)
theorem set_at {n i : Nat} (hi : i < n) (A : List Int) (hA : A.length = i) (y : Int) : (A ++ List.replicate (n - i) (0 : Int)).set i y = (A ++ [y]) ++ List.replicate (n - (i + 1)) 0 := by
  have := set_mid A (0 : Int) y (List.replicate (n - (i + 1)) 0)
  rw [hA] at this
  rw [show n - i = (n - (i + 1)) + 1 by omega, List.replicate_succ]
  exact this
theorem cls_l3 (hf : Fits acc nx) (hcl : cl.length = acc.length) (hb : acc.length ≤ 1100000) (t : Int) (X : List Int) (hX : X.length = acc.length) (i : Nat) (hi : i < acc.length) {r : List Int}
    (h : Ev (fun k => spec_l5Classes.l2 k (acc.length : Int) cl t (X.set i (leastF nx cl i)) ((i + 1 : Nat) : Int) acc nx) r) :
    ∀ d p : Nat, p + d = i → (∀ p' : Nat, p' < p → sameB nx cl p' i = false) → Ev (fun k => spec_l5Classes.l3 k (acc.length : Int) cl t (X.set i (i : Int)) (i : Int) (p : Int) acc nx) r := by
  intro d
  induction d with
  | zero =>
    intro p hp hno
    refine next ?_
    simp only [spec_l5Classes.l3, if_neg (show ¬ (p : Int) < (i : Int) by omega)]
    rw [up1 (by omega)]
    have e : leastF nx cl i = (i : Int) := by
      unfold leastF
      have : (List.range i).find? (fun p : Nat => sameB nx cl (p : Int) (i : Int)) = none := by
        rw [List.find?_eq_none]
        intro x hx
        rw [List.mem_range] at hx
        rw [hno x (by omega)]
        decide
      rw [this]
      rfl
    rw [← e]
    exact h
  | succ d ih =>
    intro p hp hno
    refine next ?_
    simp only [spec_l5Classes.l3, if_pos (show (p : Int) < (i : Int) by omega)]
    refine (same_ev hf hcl (p := (p : Int)) (q := (i : Int)) (by omega) (by omega)).bind ?_
    cases hs : sameB nx cl (p : Int) (i : Int) with
    | true =>
      simp only [if_true, if_pos (show (0 : Int) ≤ (i : Int) by omega), if_pos (show (i : Int) < ((X.set i (i : Int)).length : Int) by rw [List.length_set]; omega), Int.toNat_natCast, List.set_set]
      rw [up1 (by omega)]
      have e : leastF nx cl i = (p : Int) := by
        unfold leastF
        have : (List.range i).find? (fun p : Nat => sameB nx cl (p : Int) (i : Int)) = some p := by
          rw [List.find?_eq_some_iff_getElem]
          refine ⟨hs, p, by simp; omega, by simp, fun j hj => ?_⟩
          rw [List.getElem_range, hno j hj]
          rfl
        rw [this]
        rfl
      rw [← e]
      exact h
    | false =>
      simp only [if_neg (show ¬ false = true by decide)]
      rw [up1 (by omega)]
      refine ih (p + 1) (by omega) fun p' hp' => ?_
      by_cases e : p' = p
      · subst e; exact hs
      · exact hno p' (by omega)
theorem cls_l2 (hf : Fits acc nx) (hcl : cl.length = acc.length) (hb : acc.length ≤ 1100000) (t : Nat) (ht : t ≤ 1100000) {r : List Int}
    (h : Ev (fun k => spec_l5Classes.l1 k (acc.length : Int) (refS nx cl) ((t + 1 : Nat) : Int) acc nx) r) :
    ∀ d i : Nat, i + d = acc.length → Ev (fun k => spec_l5Classes.l2 k (acc.length : Int) cl (t : Int) ((List.range i).map (leastF nx cl) ++ List.replicate (acc.length - i) 0) (i : Int) acc nx) r := by
  intro d
  induction d with
  | zero =>
    intro i hi
    refine next ?_
    simp only [spec_l5Classes.l2, if_neg (show ¬ (i : Int) < (acc.length : Int) by omega)]
    rw [up1 (by omega)]
    have e : (List.range i).map (leastF nx cl) ++ List.replicate (acc.length - i) 0 = refS nx cl := by
      unfold refS
      rw [hcl, show i = acc.length by omega]
      simp
    rw [e]
    exact h
  | succ d ih =>
    intro i hi
    refine next ?_
    have hlen : ((List.range i).map (leastF nx cl) ++ List.replicate (acc.length - i) (0 : Int)).length = acc.length := by simp; omega
    simp only [spec_l5Classes.l2, if_pos (show (i : Int) < (acc.length : Int) by omega), if_pos (show (0 : Int) ≤ (i : Int) by omega), if_pos (show (i : Int) < (((List.range i).map (leastF nx cl) ++ List.replicate (acc.length - i) (0 : Int)).length : Int) by omega), Int.toNat_natCast]
    refine cls_l3 hf hcl hb (t : Int) _ hlen i (by omega) ?_ i 0 (by omega) (fun _ h => by omega)
    rw [set_at (by omega) _ (by simp), ← List.map_singleton, ← List.map_append, ← List.range_succ]
    exact ih (i + 1) (by omega)
theorem refS_len (nx : List (List Int)) (cl : List Int) : (refS nx cl).length = cl.length := by simp [refS]
theorem cls_l1 (hf : Fits acc nx) (hb : acc.length ≤ 1100000) : ∀ (d t : Nat) (cl : List Int), cl.length = acc.length → t + d = acc.length + 1 → Ev (fun k => spec_l5Classes.l1 k (acc.length : Int) cl (t : Int) acc nx) (iterS nx d cl) := by
  intro d
  induction d with
  | zero =>
    intro t cl hcl ht
    refine next ?_
    simp only [spec_l5Classes.l1, if_neg (show ¬ (t : Int) ≤ (acc.length : Int) by omega)]
    exact ev_some rfl
  | succ d ih =>
    intro t cl hcl ht
    refine next ?_
    simp only [spec_l5Classes.l1, if_pos (show (t : Int) ≤ (acc.length : Int) by omega), if_pos (show (0 : Int) ≤ (acc.length : Int) by omega), Int.toNat_natCast, if_pos (show acc.length ≤ 35184372088832 by omega)]
    show Ev _ (iterS nx d (refS nx cl))
    have := cls_l2 hf hcl hb t (by omega) (ih (t + 1) (refS nx cl) (by rw [refS_len]; exact hcl) (by omega)) acc.length 0 (by omega)
    simpa using this
theorem cls_l0 (hf : Fits acc nx) (hb : acc.length ≤ 1100000) {r : List Int} (h : Ev (fun k => spec_l5Classes.l1 k (acc.length : Int) (cl0 acc) 0 acc nx) r) :
    ∀ d i : Nat, i + d = acc.length → Ev (fun k => spec_l5Classes.l0 k (acc.length : Int) ((acc.take i).map (fun b => if b = true then (1 : Int) else 0) ++ List.replicate (acc.length - i) 0) (i : Int) acc nx) r := by
  intro d
  induction d with
  | zero =>
    intro i hi
    refine next ?_
    simp only [spec_l5Classes.l0, if_neg (show ¬ (i : Int) < (acc.length : Int) by omega)]
    rw [List.take_of_length_le (by omega), show acc.length - i = 0 by omega]
    simpa [cl0] using h
  | succ d ih =>
    intro i hi
    refine next ?_
    have hii : i < acc.length := by omega
    have hlen : (((acc.take i).map (fun b => if b = true then (1 : Int) else 0) ++ List.replicate (acc.length - i) (0 : Int)).length : Int) = (acc.length : Int) := by simp; omega
    have hs : ∀ y, ((acc.take i).map (fun b => if b = true then (1 : Int) else 0) ++ List.replicate (acc.length - i) (0 : Int)).set i y = ((acc.take i).map (fun b => if b = true then (1 : Int) else 0) ++ [y]) ++ List.replicate (acc.length - (i + 1)) 0 := fun y => set_at hii _ (by simp; omega) y
    have hz := hs 0
    have hsame : ((acc.take i).map (fun b => if b = true then (1 : Int) else 0) ++ List.replicate (acc.length - i) (0 : Int)).set i 0 = (acc.take i).map (fun b => if b = true then (1 : Int) else 0) ++ List.replicate (acc.length - i) (0 : Int) := by
      rw [hz, show acc.length - i = (acc.length - (i + 1)) + 1 by omega, List.replicate_succ]
      simp
    have IH := ih (i + 1) (by omega)
    rw [List.take_succ_eq_append_getElem hii, List.map_append, List.map_singleton] at IH
    simp only [spec_l5Classes.l0, if_pos (show (i : Int) < (acc.length : Int) by omega), if_pos (show (0 : Int) ≤ (i : Int) by omega), rdOf_get false acc i hii]
    rw [up1 (by omega)]
    cases hb2 : acc[i] with
    | true =>
      rw [hb2] at IH
      simp only [if_true] at IH ⊢
      simp only [hlen, if_pos (show (i : Int) < (acc.length : Int) by omega), Int.toNat_natCast, hs]
      exact IH
    | false =>
      rw [hb2] at IH
      simp only [if_neg (show ¬ false = true by decide)] at IH ⊢
      rw [← hsame, hz]
      exact IH
theorem cls_ev (hf : Fits acc nx) (hb : acc.length ≤ 1100000) : Ev (fun k => spec_l5Classes.f k acc nx) (iterS nx (acc.length + 1) (cl0 acc)) := by
  have h1 := cls_l1 hf hb (acc.length + 1) 0 (cl0 acc) (by simp [cl0]) (by omega)
  have h0 := cls_l0 hf hb h1 acc.length 0 (by omega)
  refine h0.congr fun k => ?_
  simp only [spec_l5Classes.f, if_pos (show (0 : Int) ≤ (acc.length : Int) by omega), Int.toNat_natCast, if_pos (show acc.length ≤ 35184372088832 by omega)]
  simp
end
end Go.Proofs.Ytogamkblkoobkaa.Can
end
section
namespace Go.Proofs.Ytogamkblkoobkaa.Can
open Go.RowKit Go.Proofs.Ytogamkblkoobkaa Go.Proofs.Ytogamkblkoobkaa.P Go.Proofs.Ytogamkblkoobkaa.Lg Go.Proofs.Ytogamkblkoobkaa.Pl Go.Proofs.Ytogamkblkoobkaa.Mp Go.Proofs.Ytogamkblkoobkaa.Bf Go.Proofs.Ytogamkblkoobkaa.Mn Go.Proofs.YtogamkblkoobkaaW.PrintWords Go.Proofs.YtogamkblkoobkaaW.PrintLast Go.Proofs.YtogamkblkoobkaaW.PrintMore
set_option linter.unusedVariables false
set_option linter.unusedSimpArgs false
set_option linter.unusedSectionVars false
section
variable {acc : List Bool} {nx : List (List Int)} {cl : List Int} {r : Nat}
structure Inv (acc : List Bool) (nx : List (List Int)) (r : Nat) (cl : List Int) : Prop where
  len : cl.length = acc.length
  iff : ∀ p ∈ states acc.length, ∀ q ∈ states acc.length, (rd cl p = rd cl q ↔ sig acc nx r p = sig acc nx r q)
def Rep (acc : List Bool) (nx : List (List Int)) (r : Nat) (cl : List Int) : Prop := ∀ q ∈ states acc.length, rd cl q ∈ states acc.length ∧ sig acc nx r (rd cl q) = sig acc nx r q
theorem rd_at {l : List Int} {q : Int} (h0 : 0 ≤ q) (h1 : q < (l.length : Int)) : rd l q = l[q.toNat]'(by omega) := by
  have := rd_get l q.toNat (by omega)
  rwa [Int.toNat_of_nonneg h0] at this
theorem inv0 : Inv acc nx 0 (cl0 acc) := by
  have hlen : (cl0 acc).length = acc.length := by simp [cl0]
  have hat : ∀ p ∈ states acc.length, rd (cl0 acc) p = if rdOf false acc p = true then 1 else 0 := fun p hp => by
    have := mem_states.mp hp
    rw [rd_at this.1 (by omega)]
    have h2 := rdOf_get false acc p.toNat (by omega)
    rw [Int.toNat_of_nonneg this.1] at h2
    rw [h2]
    simp [cl0]
  refine ⟨hlen, fun p hp q hq => ?_⟩
  rw [hat p hp, hat q hq, sig_zero]
  cases h1 : rdOf false acc p <;> cases h2 : rdOf false acc q <;> simp
theorem succ_state (hf : Fits acc nx) {p : Int} (hp : p ∈ states acc.length) (k : Fin 3) : rd (rowOf nx p) (k.val : Int) ∈ states acc.length := by
  have h := hf.row p (mem_states.mp hp)
  exact mem_states.mpr (h.2 _ (rd_mem h.1 k))
theorem same_sig (hf : Fits acc nx) (h : Inv acc nx r cl) {p q : Int} (hp : p ∈ states acc.length) (hq : q ∈ states acc.length) : sameB nx cl p q = true ↔ sig acc nx (r + 1) p = sig acc nx (r + 1) q := by
  rw [sameB_iff, sig_succ]
  constructor
  · rintro ⟨h0, hk⟩
    have hs := (h.iff p hp q hq).mp h0
    exact ⟨congrFun hs [], fun k => (h.iff _ (succ_state hf hp k) _ (succ_state hf hq k)).mp (hk k)⟩
  · intro hh
    exact ⟨(h.iff p hp q hq).mpr (sig_down (sig_succ.mpr hh)), fun k => (h.iff _ (succ_state hf hp k) _ (succ_state hf hq k)).mpr (hh.2 k)⟩
theorem least_sig (hf : Fits acc nx) (h : Inv acc nx r cl) {q : Nat} (hq : q < acc.length) : 0 ≤ leastF nx cl q ∧ leastF nx cl q ≤ q ∧ sig acc nx (r + 1) (leastF nx cl q) = sig acc nx (r + 1) q ∧ ∀ p : Nat, (p : Int) < leastF nx cl q → sig acc nx (r + 1) p ≠ sig acc nx (r + 1) q := by
  have hqs : (q : Int) ∈ states acc.length := mem_states.mpr (by omega)
  unfold leastF
  cases hfd : (List.range q).find? (fun p : Nat => sameB nx cl (p : Int) (q : Int)) with
  | none =>
    rw [List.find?_eq_none] at hfd
    refine ⟨by simp, by simp, rfl, fun p hp he => ?_⟩
    have hpq : p < q := by simpa using hp
    exact hfd p (List.mem_range.mpr hpq) ((same_sig hf h (mem_states.mpr (by omega)) hqs).mpr he)
  | some m =>
    obtain ⟨hs, i, hi, hm, hno⟩ := List.find?_eq_some_iff_getElem.mp hfd
    have him : i = m := by simpa using hm
    subst him
    have hiq : i < q := by simpa using hi
    refine ⟨by simp, by simp; omega, (same_sig hf h (mem_states.mpr (by simp; omega)) hqs).mp hs, fun p hp he => ?_⟩
    have hpi : p < i := by simpa using hp
    have := hno p hpi
    rw [List.getElem_range, (same_sig hf h (mem_states.mpr (by omega)) hqs).mpr he] at this
    exact absurd this (by decide)
theorem rd_refS (h : Inv acc nx r cl) {q : Int} (hq : q ∈ states acc.length) : rd (refS nx cl) q = leastF nx cl q.toNat := by
  have := mem_states.mp hq
  have hl : (refS nx cl).length = acc.length := by rw [refS_len, h.len]
  rw [rd_at this.1 (by omega)]
  simp [refS]
theorem inv_succ (hf : Fits acc nx) (h : Inv acc nx r cl) : Inv acc nx (r + 1) (refS nx cl) := by
  refine ⟨by rw [refS_len, h.len], fun p hp q hq => ?_⟩
  rw [rd_refS h hp, rd_refS h hq]
  have bp := mem_states.mp hp
  have bq := mem_states.mp hq
  obtain ⟨p0, p1, p2, p3⟩ := least_sig hf h (q := p.toNat) (by omega)
  obtain ⟨q0, q1, q2, q3⟩ := least_sig hf h (q := q.toNat) (by omega)
  rw [Int.toNat_of_nonneg bp.1] at p2 p3
  rw [Int.toNat_of_nonneg bq.1] at q2 q3
  constructor
  · intro he
    rw [← p2, ← q2, he]
  · intro he
    refine Int.le_antisymm ?_ ?_
    · refine Int.not_lt.mp fun hlt => ?_
      refine p3 (leastF nx cl q.toNat).toNat (by rw [Int.toNat_of_nonneg q0]; exact hlt) ?_
      rw [Int.toNat_of_nonneg q0, q2, he]
    · refine Int.not_lt.mp fun hlt => ?_
      refine q3 (leastF nx cl p.toNat).toNat (by rw [Int.toNat_of_nonneg p0]; exact hlt) ?_
      rw [Int.toNat_of_nonneg p0, p2, he]
theorem rep_succ (hf : Fits acc nx) (h : Inv acc nx r cl) : Rep acc nx (r + 1) (refS nx cl) := by
  intro q hq
  have bq := mem_states.mp hq
  obtain ⟨q0, q1, q2, q3⟩ := least_sig hf h (q := q.toNat) (by omega)
  rw [Int.toNat_of_nonneg bq.1] at q2
  rw [rd_refS h hq]
  exact ⟨mem_states.mpr (by omega), q2⟩
theorem iter_inv (hf : Fits acc nx) : ∀ (d r : Nat) (cl : List Int), Inv acc nx r cl → Rep acc nx r cl → Inv acc nx (r + d) (iterS nx d cl) ∧ Rep acc nx (r + d) (iterS nx d cl)
  | 0, r, cl, h, h2 => ⟨h, h2⟩
  | d + 1, r, cl, h, h2 => by
    have := iter_inv hf d (r + 1) (refS nx cl) (inv_succ hf h) (rep_succ hf h)
    rw [show r + 1 + d = r + (d + 1) by omega] at this
    exact this
structure Cls (acc : List Bool) (nx : List (List Int)) (cl : List Int) : Prop where
  len : cl.length = acc.length
  iff : ∀ p ∈ states acc.length, ∀ q ∈ states acc.length, (rd cl p = rd cl q ↔ lang acc nx p = lang acc nx q)
  rep : ∀ q ∈ states acc.length, rd cl q ∈ states acc.length ∧ lang acc nx (rd cl q) = lang acc nx q
theorem cls_good (hf : Fits acc nx) : Cls acc nx (iterS nx (acc.length + 1) (cl0 acc)) := by
  obtain ⟨h1, h2⟩ := iter_inv hf acc.length 1 (refS nx (cl0 acc)) (inv_succ hf inv0) (rep_succ hf inv0)
  have e : iterS nx (acc.length + 1) (cl0 acc) = iterS nx acc.length (refS nx (cl0 acc)) := rfl
  rw [e]
  refine ⟨h1.len, fun p hp q hq => ?_, fun q hq => ?_⟩
  · rw [h1.iff p hp q hq, sig_all hf (by omega) (mem_states.mp hp) (mem_states.mp hq)]
  · obtain ⟨a, b⟩ := h2 q hq
    exact ⟨a, (sig_all hf (by omega) (mem_states.mp a) (mem_states.mp hq)).mp b⟩
def succC (nx : List (List Int)) (cl : List Int) (p : Int) : List Int := (rowOf nx p).map (rd cl)
def rowR (nx : List (List Int)) (cl : List Int) (R : List Int) (p : Int) : List Int := (succC nx cl p).map fun y => (R.idxOf y : Int)
theorem inner_ev (hf : Fits acc nx) (hcl : cl.length = acc.length) (L R : List Int) (i : Nat) (hi : i < L.length) (hp : L[i] ∈ states acc.length) (hpre : adds L (succC nx cl L[i]) <+: R) (hR : R.length ≤ 1100000) (A : List Bool) (B : List (List Int)) (hA : A.length ≤ 1100000) (hB : B.length ≤ 1100000) {out : List Bool × List (List Int)}
    (h : Ev (fun k => spec_l5Minimal.l0 k cl (adds L (succC nx cl L[i])) ((i + 1 : Nat) : Int) acc nx (A ++ [rdOf false acc L[i]]) (B ++ [rowR nx cl R L[i]])) out) :
    ∀ (d j : Nat), j + d = 3 → Ev (fun k => spec_l5Minimal.l1 k cl (adds L ((succC nx cl L[i]).take j)) (i : Int) (((succC nx cl L[i]).take j).map fun y => (R.idxOf y : Int)) (j : Int) acc nx A B) out := by
  generalize hpe : L[i] = p at hp hpre h ⊢
  have hps := mem_states.mp hp
  have hl := hf.len
  have hr : (rd_L1 nx p).length = 3 ∧ ∀ x ∈ rd_L1 nx p, 0 ≤ x ∧ x < (acc.length : Int) := hf.row p hps
  have hsl : (succC nx cl p).length = 3 := by unfold succC; rw [List.length_map]; exact hr.1
  have hpj : ∀ j, adds L ((succC nx cl p).take j) <+: adds L (succC nx cl p) := fun j => by
    conv => rhs; rw [← List.take_append_drop j (succC nx cl p), adds_append]
    exact adds_pre _ _
  have hrdp : ∀ j, rd (adds L ((succC nx cl p).take j)) (i : Int) = p ∧ i < (adds L ((succC nx cl p).take j)).length := fun j => by
    have h1 := adds_pre ((succC nx cl p).take j) L
    have h2 := h1.length_le
    rw [rd_get _ i (by omega)]
    exact ⟨(h1.getElem hi).symm.trans hpe, by omega⟩
  have hRl : ∀ j, (adds L ((succC nx cl p).take j)).length ≤ 1100000 := fun j => Nat.le_trans ((hpj j).trans hpre).length_le hR
  intro d
  induction d with
  | zero =>
    intro j hj
    obtain rfl : j = 3 := by omega
    obtain ⟨e1, e2⟩ := hrdp 3
    refine next ?_
    simp only [spec_l5Minimal.l1, if_neg (show ¬ ((3 : Nat) : Int) < 3 by decide), if_pos (show (0 : Int) ≤ (i : Int) by omega), if_pos (show (i : Int) < ((adds L ((succC nx cl p).take 3)).length : Int) by omega), e1, if_pos hps.1, if_pos hps.2, if_pos (show A.length < 140737488355328 by omega), if_pos (show B.length < 5864062014805 by omega)]
    rw [up1 (by have := hRl 3; omega), List.take_of_length_le (by omega)]
    exact h
  | succ d ih =>
    intro j hj
    obtain ⟨e1, e2⟩ := hrdp j
    have hjr : j < (rd_L1 nx p).length := by rw [hr.1]; omega
    have hy := hr.2 _ (List.getElem_mem hjr)
    have hyr := rd_get (rd_L1 nx p) j hjr
    have hsj : (succC nx cl p)[j]'(by omega) = rd cl (rd (rd_L1 nx p) (j : Int)) := by
      rw [hyr]
      unfold succC
      rw [List.getElem_map]
      rfl
    have hrl : (((succC nx cl p).take j).map fun y => (R.idxOf y : Int)).length ≤ 3 := by rw [List.length_map, List.length_take]; omega
    have IH := ih (j + 1) (by omega)
    have hpj1 := (hpj (j + 1)).trans hpre
    rw [List.take_succ_eq_append_getElem (by omega), hsj, adds_append, List.map_append, List.map_singleton] at IH
    rw [List.take_succ_eq_append_getElem (by omega), hsj, adds_append] at hpj1
    rw [← hyr] at hy
    have hLl := hRl j
    refine next ?_
    simp only [spec_l5Minimal.l1, if_pos (show (j : Int) < 3 by omega), if_pos (show (0 : Int) ≤ (i : Int) by omega), if_pos (show (i : Int) < ((adds L ((succC nx cl p).take j)).length : Int) by omega), e1, if_pos hps.1, if_pos (show p < (nx.length : Int) by omega), if_pos (show (0 : Int) ≤ (j : Int) by omega), if_pos (show (j : Int) < ((rd_L1 nx p).length : Int) by omega), if_pos hy.1, if_pos (show rd (rd_L1 nx p) (j : Int) < (cl.length : Int) by omega)]
    generalize rd cl (rd (rd_L1 nx p) (j : Int)) = y at IH hpj1 ⊢
    generalize hLe : adds L ((succC nx cl p).take j) = L' at IH hpj1 hLl ⊢
    generalize (((succC nx cl p).take j).map fun y => (R.idxOf y : Int)) = row at IH hrl ⊢
    have hadd : adds L' [y] = add L' y := rfl
    rw [hadd] at IH hpj1
    refine (find_ev L' y (by omega)).bind ?_
    by_cases hm : y ∈ L'
    · have hf1 : findOf L' y = (L'.idxOf y : Int) := by unfold findOf; rw [if_pos hm]
      have hge : ¬ findOf L' y < 0 := by rw [hf1]; omega
      simp only [if_neg hge]
      refine (find_ev L' y (by omega)).bind ?_
      simp only [if_pos (show row.length < 17592186044416 by omega)]
      rw [up1 (by omega), hf1]
      rw [add_in hm] at IH hpj1
      rw [idxOf_pre hpj1 hm] at IH
      exact IH
    · have hf1 : findOf L' y < 0 := by unfold findOf; rw [if_neg hm]; decide
      simp only [if_pos hf1, if_pos (show L'.length < 17592186044416 by omega), Option.bind_some]
      rw [add_out hm] at IH hpj1
      refine (find_ev (L' ++ [y]) y (by simp; omega)).bind ?_
      have hm2 : y ∈ L' ++ [y] := by simp
      have hf2 : findOf (L' ++ [y]) y = ((L' ++ [y]).idxOf y : Int) := by unfold findOf; rw [if_pos hm2]
      simp only [if_pos (show row.length < 17592186044416 by omega)]
      rw [up1 (by omega), hf2]
      rw [idxOf_pre hpj1 hm2] at IH
      exact IH
theorem outer_ev (hf : Fits acc nx) (hc : Cls acc nx cl) {L R : List Int} {i : Nat} (h : Runs (succC nx cl) L i R) : R.length ≤ 1100000 → (∀ x ∈ L, x ∈ states acc.length) → i ≤ L.length →
    Ev (fun k => spec_l5Minimal.l0 k cl L (i : Int) acc nx ((L.take i).map (rdOf false acc)) ((L.take i).map (rowR nx cl R))) (R.map (rdOf false acc), R.map (rowR nx cl R)) := by
  induction h with
  | @stop L i h =>
    intro hR hL hi
    refine next ?_
    simp only [spec_l5Minimal.l0, if_neg (show ¬ (i : Int) < (L.length : Int) by omega)]
    rw [List.take_of_length_le h]
    exact ev_some rfl
  | @step L R i h hr ih =>
    intro hR hL hi
    have hp := hL _ (List.getElem_mem h)
    have hL2 : ∀ x ∈ adds L (succC nx cl L[i]), x ∈ states acc.length := fun x hx => by
      rcases mem_adds.mp hx with q | q
      · exact hL x q
      · obtain ⟨z, hz, rfl⟩ := List.mem_map.mp q
        exact (hc.rep z (mem_states.mpr ((hf.row _ (mem_states.mp hp)).2 z hz))).1
    have hpre := adds_pre (succC nx cl L[i]) L
    have IH := ih hR hL2 (by have := hpre.length_le; omega)
    have et : (adds L (succC nx cl L[i])).take (i + 1) = L.take i ++ [L[i]] := by
      obtain ⟨t, ht⟩ := hpre
      rw [← ht, List.take_append_of_le_length (by omega), List.take_succ_eq_append_getElem h]
    rw [et, List.map_append, List.map_append, List.map_singleton, List.map_singleton] at IH
    have hLR := hr.pre.length_le
    have hLl := hpre.length_le
    refine next ?_
    simp only [spec_l5Minimal.l0, if_pos (show (i : Int) < (L.length : Int) by omega)]
    have := inner_ev hf hc.len L R i h hp hr.pre hR _ _ (by simp; omega) (by simp; omega) IH 3 0 (by omega)
    rw [List.take_zero, adds_nil] at this
    simpa using this
theorem spec_min (hf : Fits acc nx) (h1 : 1 ≤ acc.length) (hb : acc.length ≤ 1100000) : ∃ out, Ev (fun k => spec_l5Minimal.f k acc nx) out ∧ IsCan (lang acc nx 0) out := by
  have hc := cls_good hf
  have hev := cls_ev hf hb
  generalize iterS nx (acc.length + 1) (cl0 acc) = cl at hc hev
  have h0 : (0 : Int) ∈ states acc.length := mem_states.mpr (by omega)
  have hc0 := hc.rep 0 h0
  have hdom : ∀ x, x ∈ states acc.length → ∀ y ∈ succC nx cl x, y ∈ states acc.length := fun x hx y hy => by
    obtain ⟨z, hz, rfl⟩ := List.mem_map.mp hy
    exact (hc.rep z (mem_states.mpr ((hf.row _ (mem_states.mp hx)).2 z hz))).1
  obtain ⟨R, hR⟩ := Runs.ends (succ := succC nx cl) (dom := fun x => x ∈ states acc.length) (N := acc.length) hdom (fun s hn hs => card_n acc.length s hn (fun x hx => mem_states.mp (hs x hx))) acc.length [rd cl 0] 0 (by simp) (fun x hx => by rw [List.mem_singleton] at hx; subst hx; exact hc0.1) (by simp) (by omega)
  have hst : ∀ x ∈ R, x ∈ states acc.length := hR.all (p := fun x => x ∈ states acc.length) hdom (fun x hx => by rw [List.mem_singleton] at hx; subst hx; exact hc0.1)
  have hnd : R.Nodup := hR.nodup (by simp)
  have hRl : R.length ≤ acc.length := card_n acc.length R hnd (fun x hx => mem_states.mp (hst x hx))
  have hcls : ∀ x ∈ R, ∃ q ∈ states acc.length, x = rd cl q := by
    refine hR.all (p := fun x => ∃ q ∈ states acc.length, x = rd cl q) ?_ ?_
    · rintro x ⟨q, hq, rfl⟩ y hy
      obtain ⟨z, hz, rfl⟩ := List.mem_map.mp hy
      exact ⟨z, mem_states.mpr ((hf.row _ (mem_states.mp (hc.rep q hq).1)).2 z hz), rfl⟩
    · intro x hx
      rw [List.mem_singleton] at hx
      exact ⟨0, h0, hx⟩
  have hinj : ∀ a ∈ R, ∀ b ∈ R, lang acc nx a = lang acc nx b → a = b := by
    intro a ha b hb hab
    obtain ⟨p, hp, rfl⟩ := hcls a ha
    obtain ⟨q, hq, rfl⟩ := hcls b hb
    rw [(hc.rep p hp).2, (hc.rep q hq).2] at hab
    exact (hc.iff p hp q hq).mpr hab
  have hsm : ∀ x ∈ states acc.length, (succC nx cl x).map (lang acc nx) = lsucc (lang acc nx x) := fun x hx => by
    rw [← succ_lang hf (mem_states.mp hx)]
    unfold succC
    rw [List.map_map]
    exact List.map_congr_left fun z hz => (hc.rep z (mem_states.mpr ((hf.row _ (mem_states.mp hx)).2 z hz))).2
  have hcan := hR.map0 (dom := fun x => x ∈ states acc.length) (succ' := lsucc) (f := lang acc nx) hdom hsm hc0.1
  have hdd : dd (R.map (lang acc nx)) = R.map (lang acc nx) := by rw [dd_inj _ _ hinj, dd_id hnd]
  rw [hdd, hc0.2] at hcan
  refine ⟨(R.map (rdOf false acc), R.map (rowR nx cl R)), ?_, _, hcan, ?_⟩
  · have ho := outer_ev hf hc hR (by omega) (fun x hx => by rw [List.mem_singleton] at hx; subst hx; exact hc0.1) (by simp)
    refine hev.bind ?_
    simp only [if_pos (show (0 : Int) < (cl.length : Int) by have := hc.len; omega)]
    simpa using ho
  · unfold outL
    refine Prod.ext ?_ ?_
    · show R.map _ = _
      rw [List.map_map]
      rfl
    · show R.map (rowR nx cl R) = (R.map (lang acc nx)).map (fun X => (lsucc X).map (fun Y => ((R.map (lang acc nx)).idxOf Y : Int)))
      rw [List.map_map]
      refine List.map_congr_left fun x hx => ?_
      show rowR nx cl R x = (lsucc (lang acc nx x)).map (fun Y => ((R.map (lang acc nx)).idxOf Y : Int))
      rw [← hsm x (hst x hx), List.map_map]
      unfold rowR
      refine List.map_congr_left fun y hy => ?_
      have hyR := hR.closed (fun j _ hj => by omega) x hx y hy
      show (R.idxOf y : Int) = ((R.map (lang acc nx)).idxOf (lang acc nx y) : Int)
      rw [idxOf_inj (lang acc nx) R y (fun b hb h => hinj b hb y hyR h)]
theorem min_same (hf : Fits acc nx) (h1 : 1 ≤ acc.length) (hb : acc.length ≤ 1100000) : Ev (fun k => spec_l5Minimal.f k acc nx) (minD acc nx 0) := by
  obtain ⟨out, h, hc⟩ := spec_min hf h1 hb
  rw [hc.det (min_can hf (st := 0) (by omega))] at h
  exact h
end
end Go.Proofs.Ytogamkblkoobkaa.Can
end
section
namespace Go.Proofs.Ytogamkblkoobkaa.Rk
open Go.RowKit Go.Deep Go.ChangeShapes Go.WideShapes Go.Proofs.YtogamkblkoobkaaW.PrintWords Go.Proofs.YtogamkblkoobkaaW.PrintLast Go.Proofs.YtogamkblkoobkaaW.PrintMore
set_option linter.unusedVariables false
set_option linter.unusedSimpArgs false
variable {H : Type} {enc : TypeId × Value → H} {P : Program} {w : World} {base : Nat} {spare : Nat → Bool} {held : Bool} {α : Type}
def wfI (k : IntKind) (n : Int) : Prop := (Lit.int k n).wf = true
end Go.Proofs.Ytogamkblkoobkaa.Rk
end
section
namespace Go.Proofs.Ytogamkblkoobkaa.P
open Go.RowKit Go.Proofs.YtogamkblkoobkaaW.PrintWords Go.Proofs.YtogamkblkoobkaaW.PrintLast Go.Proofs.YtogamkblkoobkaaW.PrintMore
attribute [local go_sem] max2_int min2_int max_two min_two max_three min_three max_four min_four
set_option linter.unusedVariables false
set_option linter.unusedSimpArgs false
end Go.Proofs.Ytogamkblkoobkaa.P
end
section
namespace Go.Proofs.Ytogamkblkoobkaa.Pl
open Go.RowKit Go.Proofs.Ytogamkblkoobkaa.P Go.Proofs.YtogamkblkoobkaaW.PrintWords Go.Proofs.YtogamkblkoobkaaW.PrintLast Go.Proofs.YtogamkblkoobkaaW.PrintMore Wk
set_option linter.unusedVariables false
set_option linter.unusedSimpArgs false
theorem rows_get (xs : List (List Int)) (i : Nat) (h : i < xs.length) : rd_L1 xs i = xs[i] := by
  simp [rd_L1, List.getD_eq_getElem?_getD, h]
theorem spec_in (a lo hi : Int) : spec_l1In.f a lo hi = some (decide (lo ≤ a) && decide (a ≤ hi)) := by
  unfold spec_l1In.f
  by_cases h : a ≥ lo
  · rw [if_pos h, decide_eq_true (show lo ≤ a from h), Bool.true_and]
  · rw [if_neg h, decide_eq_false (show ¬ lo ≤ a from h), Bool.false_and]
theorem impl_in (a lo hi : Int) : impl_within.f a lo hi = some (decide (lo ≤ a) && decide (a ≤ hi)) := by
  unfold impl_within.f
  by_cases h : a ≥ lo
  · rw [if_pos h, decide_eq_true (show lo ≤ a from h), Bool.true_and]
  · rw [if_neg h, decide_eq_false (show ¬ lo ≤ a from h), Bool.false_and]
theorem badState_eq (n q : Int) : badState n q = !(decide (0 ≤ q) && decide (q ≤ n - 1)) := by
  unfold badState
  cases decide (0 ≤ q) <;> cases decide (q ≤ n - 1) <;> rfl
theorem spec_valid_l1 (acc : List Bool) (nxt : List (List Int)) (q : Nat) (hq : q < nxt.length) (hnl : nxt.length ≤ 1048576) (h3 : nxt[q].length = 3) (hn1 : 1 ≤ acc.length) (hn : acc.length ≤ 40) (res : Bool) (h : Ev (fun k => spec_IsValidDfa.l0 k (acc.length : Int) ((q + 1 : Nat) : Int) acc nxt) res) :
    ∀ d i : Nat, i + d = 3 → Ev (fun k => spec_IsValidDfa.l1 k (acc.length : Int) q i acc nxt) (if (nxt[q].drop i).any (badState acc.length) = true then false else res) := by
  intro d
  induction d with
  | zero =>
    intro i hd
    refine next ?_
    simp only [spec_IsValidDfa.l1, if_pos (show (0 : Int) ≤ q by omega), if_pos (show (q : Int) < (nxt.length : Int) by omega), rows_get nxt q hq, if_neg (show ¬ (i : Int) < (nxt[q].length : Int) by omega)]
    rw [List.drop_eq_nil_of_le (by omega), List.any_nil, if_neg (by simp)]
    simp only [up1 (show q < 9223372036854775807 by omega)]
    exact h
  | succ d ih =>
    intro i hd
    refine next ?_
    have hi : i < nxt[q].length := by omega
    have hw : wrap64 ((acc.length : Int) - 1) = (acc.length : Int) - 1 := w64 (by omega) (by omega)
    simp only [spec_IsValidDfa.l1, if_pos (show (0 : Int) ≤ q by omega), if_pos (show (q : Int) < (nxt.length : Int) by omega), rows_get nxt q hq, if_pos (show (i : Int) < (nxt[q].length : Int) by omega), if_pos (show (0 : Int) ≤ i by omega), rd_get nxt[q] i hi, spec_in, Option.bind_some, hw, up1 (show i < 9223372036854775807 by omega)]
    rw [List.drop_eq_getElem_cons hi, List.any_cons]
    have hbe := badState_eq (acc.length : Int) nxt[q][i]
    by_cases hb : badState acc.length nxt[q][i] = true
    · have hb2 : (decide (0 ≤ nxt[q][i]) && decide (nxt[q][i] ≤ (acc.length : Int) - 1)) = false := by
        rw [hb] at hbe
        cases hc : (decide (0 ≤ nxt[q][i]) && decide (nxt[q][i] ≤ (acc.length : Int) - 1)) with
        | true => rw [hc] at hbe; cases hbe
        | false => rfl
      simp only [hb2, Bool.false_ne_true, if_false, hb, Bool.true_or, if_true]
      exact Ev.now _
    · have hb2 : (decide (0 ≤ nxt[q][i]) && decide (nxt[q][i] ≤ (acc.length : Int) - 1)) = true := by
        rw [eq_false_of_ne_true hb] at hbe
        cases hc : (decide (0 ≤ nxt[q][i]) && decide (nxt[q][i] ≤ (acc.length : Int) - 1)) with
        | true => rfl
        | false => rw [hc] at hbe; cases hbe
      simp only [hb2, if_true, eq_false_of_ne_true hb, Bool.false_or]
      exact ih (i + 1) (by omega)
theorem spec_valid_l0 (acc : List Bool) (nxt : List (List Int)) (hl : nxt.length = acc.length) (hn1 : 1 ≤ acc.length) (hn : acc.length ≤ 40) :
    ∀ d q : Nat, q + d = acc.length → Ev (fun k => spec_IsValidDfa.l0 k (acc.length : Int) q acc nxt) (!((nxt.drop q).any (badRow acc.length))) := by
  intro d
  induction d with
  | zero =>
    intro q hd
    refine next ?_
    simp only [spec_IsValidDfa.l0, if_neg (show ¬ (q : Int) < (acc.length : Int) by omega)]
    exact ev_some (by rw [List.drop_eq_nil_of_le (by omega)]; rfl)
  | succ d ih =>
    intro q hd
    have hq : q < nxt.length := by omega
    refine next ?_
    simp only [spec_IsValidDfa.l0, if_pos (show (q : Int) < (acc.length : Int) by omega), if_pos (show (0 : Int) ≤ q by omega), if_pos (show (q : Int) < (nxt.length : Int) by omega), rows_get nxt q hq]
    rw [List.drop_eq_getElem_cons hq, List.any_cons]
    by_cases h3 : nxt[q].length = 3
    · simp only [if_pos (show (nxt[q].length : Int) = 3 by omega)]
      refine ev_eq (spec_valid_l1 acc nxt q hq (by omega) h3 hn1 hn _ (ih (q + 1) (by omega)) 3 0 rfl) ?_
      rw [List.drop_zero]
      have e : badRow acc.length nxt[q] = nxt[q].any (badState acc.length) := by simp [badRow, h3]
      rw [e]
      cases nxt[q].any (badState acc.length) <;> simp
    · simp only [if_neg (show ¬ (nxt[q].length : Int) = 3 by omega)]
      exact ev_some (by simp [badRow, h3])
theorem spec_valid (acc : List Bool) (nxt : List (List Int)) (ha : acc.length ≤ 1048576) (hn : nxt.length ≤ 1048576) : Ev (fun k => spec_IsValidDfa.f k acc nxt) (validD acc nxt) := by
  have jt : ∀ b : Bool, Ev (fun k => spec_IsValidDfa.j0 k (acc.length : Int) true acc nxt) false := by
    intro b
    refine next ?_
    simp only [spec_IsValidDfa.j0, if_true]
    exact Ev.now _
  simp only [spec_IsValidDfa.f, spec_in, Option.bind_some, validD]
  by_cases h : 1 ≤ acc.length ∧ acc.length ≤ 40
  · have e1 : (decide ((1 : Int) ≤ (acc.length : Int)) && decide ((acc.length : Int) ≤ 40)) = true := by
      rw [decide_eq_true (show (1 : Int) ≤ (acc.length : Int) by omega), decide_eq_true (show (acc.length : Int) ≤ 40 by omega)]; rfl
    simp only [e1, if_true, decide_eq_true h.1, decide_eq_true h.2, Bool.true_and]
    by_cases hl : nxt.length = acc.length
    · have e2 : ((nxt.length : Int) != (acc.length : Int)) = false := by rw [bne_eq_false_iff_eq]; omega
      simp only [e2, decide_eq_true hl, Bool.true_and]
      refine next ?_
      simp only [spec_IsValidDfa.j0, Bool.false_ne_true, if_false]
      exact spec_valid_l0 acc nxt hl h.1 h.2 acc.length 0 (by omega)
    · have e2 : ((nxt.length : Int) != (acc.length : Int)) = true := by rw [bne_iff_ne]; omega
      simp only [e2, decide_eq_false hl, Bool.false_and]
      exact jt true
  · have e1 : (decide ((1 : Int) ≤ (acc.length : Int)) && decide ((acc.length : Int) ≤ 40)) = false := by
      by_cases h1 : 1 ≤ acc.length
      · rw [decide_eq_false (show ¬ (acc.length : Int) ≤ 40 by omega), Bool.and_false]
      · rw [decide_eq_false (show ¬ (1 : Int) ≤ (acc.length : Int) by omega), Bool.false_and]
    have e2 : (decide (1 ≤ acc.length) && decide (acc.length ≤ 40)) = false := by
      by_cases h1 : 1 ≤ acc.length
      · rw [decide_eq_false (show ¬ acc.length ≤ 40 by omega), Bool.and_false]
      · rw [decide_eq_false h1, Bool.false_and]
    simp only [e1, e2, Bool.false_ne_true, if_false, Bool.false_and]
    exact jt true
theorem valid_facts {acc : List Bool} {nxt : List (List Int)} (h : validD acc nxt = true) : 1 ≤ acc.length ∧ acc.length ≤ 40 ∧ nxt.length = acc.length ∧ ∀ r ∈ nxt, r.length = 3 ∧ ∀ x ∈ r, 0 ≤ x ∧ x < (acc.length : Int) := by
  simp only [validD, Bool.and_eq_true, decide_eq_true_eq, Bool.not_eq_true', List.any_eq_false] at h
  obtain ⟨⟨⟨h1, h2⟩, h3⟩, h4⟩ := h
  refine ⟨h1, h2, h3, fun r hr => ?_⟩
  have := h4 r hr
  simp only [badRow, Bool.or_eq_true, decide_eq_true_eq, not_or, List.any_eq_true, not_exists, not_and] at this
  refine ⟨by omega, fun x hx => ?_⟩
  have hb := this.2 x hx
  rw [badState_eq] at hb
  simp at hb
  omega
theorem next_range {acc : List Bool} {nxt : List (List Int)} (h : validD acc nxt = true) (q : Int) (h0 : 0 ≤ q) (h1 : q < (acc.length : Int)) (i : Int) (hi0 : 0 ≤ i) (hi1 : i < 3) : (rd_L1 nxt q).length = 3 ∧ 0 ≤ rd (rd_L1 nxt q) i ∧ rd (rd_L1 nxt q) i < (acc.length : Int) := by
  obtain ⟨_, _, hl, hr⟩ := valid_facts h
  obtain ⟨n, rfl⟩ := Int.eq_ofNat_of_zero_le h0
  obtain ⟨j, rfl⟩ := Int.eq_ofNat_of_zero_le hi0
  have hn : n < nxt.length := by omega
  rw [rows_get nxt n hn]
  have h3 := hr nxt[n] (List.getElem_mem _)
  have hj : j < nxt[n].length := by omega
  rw [rd_get _ j hj]
  exact ⟨h3.1, h3.2 _ (List.getElem_mem _)⟩
end Go.Proofs.Ytogamkblkoobkaa.Pl
end
section
namespace Go.Proofs.Ytogamkblkoobkaa.Can
open Go.RowKit Go.Proofs.Ytogamkblkoobkaa Go.Proofs.Ytogamkblkoobkaa.P Go.Proofs.Ytogamkblkoobkaa.Wk Go.Proofs.Ytogamkblkoobkaa.Lg Go.Proofs.Ytogamkblkoobkaa.Pl Go.Proofs.Ytogamkblkoobkaa.Mp Go.Proofs.Ytogamkblkoobkaa.Bf Go.Proofs.Ytogamkblkoobkaa.Mn Go.Proofs.YtogamkblkoobkaaW.PrintWords Go.Proofs.YtogamkblkoobkaaW.PrintLast Go.Proofs.YtogamkblkoobkaaW.PrintMore
set_option linter.unusedVariables false
set_option linter.unusedSimpArgs false
set_option linter.unusedSectionVars false
theorem ldF_len : ∀ (m : List Int) (i : Nat) (ns ls : List Int), (ldF m i ns ls).2.length ≤ ls.length + m.length
  | [], i, ns, ls => by simp [ldF]
  | c :: m, i, ns, ls => by
    rw [ldF]
    split
    · have := ldF_len m (i + 1) ns ls
      simp only [List.length_cons]
      omega
    · have := ldF_len m (i + 1) (ns ++ [c]) (ls ++ [(i : Int)])
      simp only [List.length_append, List.length_cons, List.length_nil] at this ⊢
      omega
theorem refF_len (l1 : List (List Int)) (os : List Int) : ∀ (d : Nat) (cl : List Int) (c : Nat), cl.length = os.length → (refF l1 os d cl c).length = os.length
  | 0, cl, c, h => h
  | d + 1, cl, c, h => by
    rw [refF]
    have gl : (nmF (keys l1 os cl) [] []).2.length = os.length := by rw [nm_snd]; simp [keys]
    split
    · exact gl
    · exact refF_len l1 os d _ _ gl
theorem minD_len {acc : List Bool} {l1 : List (List Int)} (hf : Fits acc l1) {st : Int} (hst : 0 ≤ st ∧ st < (acc.length : Int)) : (minD acc l1 st).1.length ≤ acc.length ∧ (minD acc l1 st).2.length = (minD acc l1 st).1.length ∧ ∀ r ∈ (minD acc l1 st).2, r.length = 3 := by
  have h0 : ∀ x ∈ [st], 0 ≤ x ∧ x < (acc.length : Int) := fun x hx => by rw [List.mem_singleton] at hx; subst hx; exact hst
  have hR := ord_runs hf (acc.length + 2) [st] 0 (by simp) h0 (by omega)
  obtain ⟨R, hRR, hout⟩ := min_can hf hst
  have hlen : (minD acc l1 st).1.length ≤ acc.length := by
    unfold minD minT
    generalize ordF l1 (acc.length + 2) [st] 0 = os at hR
    have hn : os.Nodup := hR.nodup (by simp)
    have hdom := hR.all (p := fun x => 0 ≤ x ∧ x < (acc.length : Int)) (fun x hx y hy => (hf.row x hx).2 y hy) h0
    have h1 := refF_len l1 os (os.length + 2) (os.map (cls0 acc)) 0 (by simp)
    have h2 := card_n acc.length os hn hdom
    unfold outD
    simp only [List.length_map]
    have := ldF_len (refF l1 os (os.length + 2) (os.map (cls0 acc)) 0) 0 [] []
    simp only [List.length_nil] at this
    omega
  refine ⟨hlen, ?_, ?_⟩
  · rw [hout]
    simp [outL]
  · rw [hout]
    intro r hr
    unfold outL at hr
    obtain ⟨X, _, rfl⟩ := List.mem_map.mp hr
    simp [lsucc]
def minOf (acc : List Bool) (nx : List (List Int)) : List Bool × List (List Int) := if validD acc nx = true then minD acc nx 0 else ([], [])
theorem fits_valid {a : List Bool} {n : List (List Int)} (hv : validD a n = true) : Fits a n := by
  obtain ⟨h1, h2, h3, h4⟩ := validD_facts hv
  refine ⟨h3, fun q hq => ?_⟩
  have hlt : q.toNat < n.length := by omega
  unfold rowOf
  rw [List.getD_eq_getElem?_getD, List.getElem?_eq_getElem hlt]
  exact h4 _ (List.getElem_mem hlt)
theorem spec_minimize (a : List Bool) (n : List (List Int)) (ha : a.length ≤ 1048576) (hn : n.length ≤ 1048576) : Ev (fun k => spec_MinimizeDfa.f k a n) (minOf a n) := by
  simp only [spec_MinimizeDfa.f]
  refine Ev.bind (spec_valid a n ha hn) ?_
  unfold minOf
  by_cases hv : validD a n = true
  · simp only [hv, if_true]
    obtain ⟨h1, h2, h3, h4⟩ := validD_facts hv
    exact Ev.bind (min_same (fits_valid hv) h1 (by omega)) (Ev.now _)
  · simp only [if_neg hv]
    exact Ev.now _
theorem impl_minimize (a : List Bool) (n : List (List Int)) : impl_MinimizeDfa.f a n = some (minOf a n) := by
  unfold impl_MinimizeDfa.f impl_IsValidDfa.f minOf
  simp only [Option.bind_some]
  by_cases hv : validD a n = true
  · obtain ⟨h1, h2, h3, h4⟩ := validD_facts hv
    rw [if_pos hv, if_pos hv]
    unfold impl_minimized.f
    rw [if_pos ⟨h3, by omega, h4, by omega, by omega⟩]
    rfl
  · rw [if_neg hv, if_neg hv]
theorem minOf_len (a : List Bool) (n : List (List Int)) : (minOf a n).1.length ≤ 40 ∧ (minOf a n).2.length ≤ 40 ∧ ∀ r ∈ (minOf a n).2, r.length = 3 := by
  unfold minOf
  by_cases hv : validD a n = true
  · rw [if_pos hv]
    obtain ⟨h1, h2, h3, h4⟩ := validD_facts hv
    obtain ⟨l1, l2, l3⟩ := minD_len (fits_valid hv) (st := 0) (by omega)
    exact ⟨by omega, by omega, l3⟩
  · rw [if_neg hv]
    simp
end Go.Proofs.Ytogamkblkoobkaa.Can
end
section
namespace Go.Proofs.Ytogamkblkoobkaa.Pl
open Go.RowKit Go.Proofs.Ytogamkblkoobkaa.P Go.Proofs.YtogamkblkoobkaaW.PrintWords Go.Proofs.YtogamkblkoobkaaW.PrintLast Go.Proofs.YtogamkblkoobkaaW.PrintMore
set_option linter.unusedVariables false
set_option linter.unusedSimpArgs false
def letIdx (b : Int) : Int := if b = 97 then 0 else if b = 98 then 1 else if b = 99 then 2 else -1
theorem u8_eq {b : Int} (h0 : 0 ≤ b) (h1 : b ≤ 255) (c : Nat) (hc : c < 256) : (b.toNat.toUInt8 = UInt8.ofNat c) ↔ b = c := by
  constructor
  · intro h
    have := congrArg UInt8.toNat h
    simp at this
    omega
  · rintro rfl
    simp
theorem impl_letter {b : Int} (h0 : 0 ≤ b) (h1 : b ≤ 255) : impl_LetterIndex.f b = some (letIdx b) := by
  simp only [impl_LetterIndex.f, strings_IndexByte.f, Option.bind_some, letIdx]
  have e97 := u8_eq h0 h1 97 (by omega)
  have e98 := u8_eq h0 h1 98 (by omega)
  have e99 := u8_eq h0 h1 99 (by omega)
  congr 1
  by_cases h : b = 97
  · rw [h]; rfl
  · by_cases h2 : b = 98
    · rw [h2]; rfl
    · by_cases h3 : b = 99
      · rw [h3]; rfl
      · have n97 : ¬ b.toNat.toUInt8 = 97 := fun e => h (e97.mp e)
        have n98 : ¬ b.toNat.toUInt8 = 98 := fun e => h2 (e98.mp e)
        have n99 : ¬ b.toNat.toUInt8 = 99 := fun e => h3 (e99.mp e)
        rw [if_neg h, if_neg h2, if_neg h3]
        have q1 : ¬ (97 : UInt8) = b.toNat.toUInt8 := fun e => n97 e.symm
        have q2 : ¬ (98 : UInt8) = b.toNat.toUInt8 := fun e => n98 e.symm
        have q3 : ¬ (99 : UInt8) = b.toNat.toUInt8 := fun e => n99 e.symm
        simp only [Lib.indexByte, beq_iff_eq, n97, n98, n99, q1, q2, q3, if_false]
        rfl
def lets (l : List Int) : Bool := l.all fun b => decide (0 ≤ letIdx b)
def word (s : ByteArray) : Bool := lets (bytesOf s) && decide (s.size ≤ 30)
theorem letIdx_range (b : Int) : -1 ≤ letIdx b ∧ letIdx b ≤ 2 := by
  unfold letIdx
  split
  · omega
  · split
    · omega
    · split <;> omega
theorem impl_lets_l0 (s : ByteArray) (hs : s.size ≤ 140737488351232) : ∀ d i : Nat, i + d = s.size → Ev (fun k => impl_isLetters.l0 k s i) (lets ((bytesOf s).drop i)) := by
  intro d
  induction d with
  | zero =>
    intro i h
    refine next ?_
    simp only [impl_isLetters.l0, if_neg (show ¬ (i : Int) < (s.size : Int) by omega), drop_end s i (by omega)]
    exact ev_some (by simp [lets])
  | succ d ih =>
    intro i h
    refine next ?_
    simp only [impl_isLetters.l0, if_pos (show (i : Int) < (s.size : Int) by omega), if_pos (show (0 : Int) ≤ i by omega), impl_letter (bt_range s i).1 (bt_range s i).2, Option.bind_some]
    rw [drop_cons s i (by omega)]
    by_cases hl : letIdx (bt s i) < 0
    · simp only [if_pos hl]
      exact ev_some (by simp [lets, show ¬ 0 ≤ letIdx (bt s i) by omega])
    · simp only [if_neg hl, up1 (show i < 9223372036854775807 by omega)]
      exact ev_eq (ih (i + 1) (by omega)) (by simp [lets, show 0 ≤ letIdx (bt s i) by omega])
theorem impl_word (s : ByteArray) (hs : s.size ≤ 140737488351232) : Ev (fun k => impl_IsWord.f k s) (word s) := by
  simp only [impl_IsWord.f]
  by_cases h : s.size ≤ 30
  · simp only [if_pos (show (s.size : Int) ≤ 30 by omega)]
    refine Ev.bind (impl_lets_l0 s hs s.size 0 (by omega)) ?_
    exact ev_some (by simp [word, h])
  · simp only [if_neg (show ¬ (s.size : Int) ≤ 30 by omega)]
    exact ev_some (by simp [word, h])
end Go.Proofs.Ytogamkblkoobkaa.Pl
end
section
namespace Go.Proofs.Ytogamkblkoobkaa.P
open Go.RowKit Go.Proofs.YtogamkblkoobkaaW.PrintWords Go.Proofs.YtogamkblkoobkaaW.PrintLast Go.Proofs.YtogamkblkoobkaaW.PrintMore
attribute [local go_sem] max2_int min2_int max_two min_two max_three min_three max_four min_four
set_option linter.unusedVariables false
set_option linter.unusedSimpArgs false
end Go.Proofs.Ytogamkblkoobkaa.P
end
section
namespace Go.Proofs.Ytogamkblkoobkaa.Pl
open Go.RowKit Go.Proofs.Ytogamkblkoobkaa.P Go.Proofs.YtogamkblkoobkaaW.PrintWords Go.Proofs.YtogamkblkoobkaaW.PrintLast Go.Proofs.YtogamkblkoobkaaW.PrintMore Wk
set_option linter.unusedVariables false
set_option linter.unusedSimpArgs false
def runD (nxt : List (List Int)) (q : Int) (l : List Int) : Int := l.foldl (fun q b => rd (rd_L1 nxt q) (letIdx b)) q
theorem lets_cons {b : Int} {l : List Int} : lets (b :: l) = true ↔ 0 ≤ letIdx b ∧ lets l = true := by simp [lets]
theorem impl_run_l0 (acc : List Bool) (nxt : List (List Int)) (hv : validD acc nxt = true) (s : ByteArray) (hs : s.size ≤ 140737488351232) : ∀ (d i : Nat) (q : Int), i + d = s.size → lets ((bytesOf s).drop i) = true → 0 ≤ q → q < (acc.length : Int) → Ev (fun k => impl_after.l0 k q s i acc nxt) (runD nxt q ((bytesOf s).drop i)) := by
  have hl := (valid_facts hv).2.2.1
  intro d
  induction d with
  | zero =>
    intro i q h hw h0 h1
    refine next ?_
    simp only [impl_after.l0, if_neg (show ¬ (i : Int) < (s.size : Int) by omega), drop_end s i (by omega)]
    exact Ev.now _
  | succ d ih =>
    intro i q h hw h0 h1
    rw [drop_cons s i (by omega)] at hw ⊢
    have hb := lets_cons.mp hw
    have hlr := letIdx_range (bt s i)
    have hn := next_range hv q h0 h1 (letIdx (bt s i)) hb.1 (by omega)
    refine next ?_
    simp only [impl_after.l0, if_pos (show (i : Int) < (s.size : Int) by omega), if_pos h0, if_pos (show q < (nxt.length : Int) by omega), if_pos (show (0 : Int) ≤ i by omega), impl_letter (bt_range s i).1 (bt_range s i).2, Option.bind_some, if_pos hb.1, hn.1, if_pos (show letIdx (bt s i) < ((3 : Nat) : Int) by omega), up1 (show i < 9223372036854775807 by omega)]
    exact ih (i + 1) _ (by omega) hb.2 hn.2.1 hn.2.2
def runOf (acc : List Bool) (nxt : List (List Int)) (q : Int) (s : ByteArray) : Int × Bool :=
  if validD acc nxt = true ∧ 0 ≤ q ∧ q ≤ (acc.length : Int) - 1 ∧ word s = true then (runD nxt q (bytesOf s), true) else (0, false)
theorem impl_run (acc : List Bool) (nxt : List (List Int)) (q : Int) (ha : acc.length ≤ 1048576) (s : ByteArray) (hs : s.size ≤ 140737488351232) : Ev (fun k => impl_RunDfa.f k acc nxt q s) (runOf acc nxt q s) := by
  have hw : wrap64 ((acc.length : Int) - 1) = (acc.length : Int) - 1 := w64 (by omega) (by omega)
  simp only [impl_RunDfa.f, impl_IsValidDfa.f, hw, impl_in, Option.bind_some, runOf]
  by_cases hv : validD acc nxt = true
  · simp only [hv, if_true, true_and]
    by_cases hq : 0 ≤ q ∧ q ≤ (acc.length : Int) - 1
    · simp only [decide_eq_true hq.1, decide_eq_true hq.2, Bool.true_and, if_true, hq.1, hq.2, true_and]
      refine Ev.bind (impl_word s hs) ?_
      by_cases hwd : word s = true
      · simp only [hwd, if_true]
        refine Ev.bind (impl_run_l0 acc nxt hv s hs s.size 0 q (by omega) ?_ hq.1 (by omega)) (Ev.now _)
        simp only [word, Bool.and_eq_true] at hwd
        exact hwd.1
      · simp only [eq_false_of_ne_true hwd, Bool.false_ne_true, if_false]
        exact Ev.now _
    · have e : (decide (0 ≤ q) && decide (q ≤ (acc.length : Int) - 1)) = false := by
        by_cases h1 : 0 ≤ q
        · rw [decide_eq_false (show ¬ q ≤ (acc.length : Int) - 1 by omega), Bool.and_false]
        · rw [decide_eq_false h1, Bool.false_and]
      simp only [e, Bool.false_ne_true, if_false]
      rw [if_neg (by rintro ⟨h1, h2, _⟩; exact hq ⟨h1, h2⟩)]
      exact Ev.now _
  · simp only [hv, if_false, false_and]
    exact Ev.now _
theorem runD_range {acc : List Bool} {nxt : List (List Int)} (hv : validD acc nxt = true) : ∀ (l : List Int) (q : Int), lets l = true → 0 ≤ q → q < (acc.length : Int) → 0 ≤ runD nxt q l ∧ runD nxt q l < (acc.length : Int) := by
  intro l
  induction l with
  | nil => intro q _ h0 h1; exact ⟨h0, h1⟩
  | cons b l ih =>
    intro q hw h0 h1
    have hb := lets_cons.mp hw
    have hlr := letIdx_range b
    have hn := next_range hv q h0 h1 (letIdx b) hb.1 (by omega)
    exact ih _ hb.2 hn.2.1 hn.2.2
def accOf (acc : List Bool) (nxt : List (List Int)) (s : ByteArray) : Bool := validD acc nxt && word s && rdOf false acc (runD nxt 0 (bytesOf s))
theorem runOf_zero (acc : List Bool) (nxt : List (List Int)) (s : ByteArray) : (runOf acc nxt 0 s).2 = (validD acc nxt && word s) ∧ ((runOf acc nxt 0 s).2 = true → (runOf acc nxt 0 s).1 = runD nxt 0 (bytesOf s) ∧ 0 ≤ runD nxt 0 (bytesOf s) ∧ runD nxt 0 (bytesOf s) < (acc.length : Int)) := by
  unfold runOf
  by_cases hv : validD acc nxt = true
  · have hf := valid_facts hv
    by_cases hwd : word s = true
    · rw [if_pos ⟨hv, by omega, by omega, hwd⟩]
      simp only [word, Bool.and_eq_true] at hwd
      exact ⟨by simp [hv, word, hwd.1, hwd.2], fun _ => ⟨rfl, runD_range hv _ 0 hwd.1 (by omega) (by omega)⟩⟩
    · rw [if_neg (by rintro ⟨_, _, _, h⟩; exact hwd h)]
      exact ⟨by simp [hwd], fun h => by cases h⟩
  · rw [if_neg (by rintro ⟨h, _⟩; exact hv h)]
    exact ⟨by simp [hv], fun h => by cases h⟩
theorem impl_acc (acc : List Bool) (nxt : List (List Int)) (ha : acc.length ≤ 1048576) (s : ByteArray) (hs : s.size ≤ 140737488351232) : Ev (fun k => impl_AcceptsWord.f k acc nxt s) (accOf acc nxt s) := by
  simp only [impl_AcceptsWord.f]
  refine Ev.bind (impl_run acc nxt 0 ha s hs) ?_
  obtain ⟨h1, h2⟩ := runOf_zero acc nxt s
  by_cases h : (runOf acc nxt 0 s).2 = true
  · obtain ⟨e, r0, r1⟩ := h2 h
    rw [h] at h1
    simp only [h, if_true, e, if_pos r0, if_pos r1]
    exact ev_some (by unfold accOf; rw [← h1, Bool.true_and])
  · simp only [eq_false_of_ne_true h, Bool.false_ne_true, if_false]
    rw [eq_false_of_ne_true h] at h1
    exact ev_some (by unfold accOf; rw [← h1, Bool.false_and])
end Go.Proofs.Ytogamkblkoobkaa.Pl
end
section
namespace Go.Proofs.Ytogamkblkoobkaa.Bf
open Go.RowKit Go.Proofs.Ytogamkblkoobkaa.Pl Go.Proofs.Ytogamkblkoobkaa.Mp Go.Proofs.YtogamkblkoobkaaW.PrintWords Go.Proofs.YtogamkblkoobkaaW.PrintLast Go.Proofs.YtogamkblkoobkaaW.PrintMore
set_option linter.unusedVariables false
set_option linter.unusedSimpArgs false
set_option linter.unusedSectionVars false
section
variable {α : Type} [DecidableEq α] {nx : α → Nat → α} {x0 : α} {dom : α → Prop} {N : Nat} {good : α → Bool}
def goR (nx : α → Nat → α) (x : α) (bs : List Int) : α := bs.foldl (fun x b => nx x (letIdx b).toNat) x
theorem bytes_append (a b : ByteArray) : bytesOf (a ++ b) = bytesOf a ++ bytesOf b := by
  simp [bytesOf, ByteArray.append]
theorem bytes_pc (j : Nat) (h : j < 3) : ∃ b, bytesOf (pc j) = [b] ∧ letIdx b = (j : Int) := by
  match j, h with
  | 0, _ => exact ⟨97, rfl, rfl⟩
  | 1, _ => exact ⟨98, rfl, rfl⟩
  | 2, _ => exact ⟨99, rfl, rfl⟩
def Leads (nx : α → Nat → α) (x0 : α) (p : St α) : Prop := p.2.length = p.1.length ∧ ∀ j (hj : j < p.1.length), goR nx x0 (bytesOf (p.2.getD j ByteArray.empty)) = p.1[j] ∧ lets (bytesOf (p.2.getD j ByteArray.empty)) = true
theorem leads_put {p : St α} (h : Leads nx x0 p) {y : α} {wd : ByteArray} (hw : goR nx x0 (bytesOf wd) = y ∧ lets (bytesOf wd) = true) : Leads nx x0 (put y wd p) := by
  unfold put
  split
  · exact h
  · obtain ⟨h1, h2⟩ := h
    refine ⟨by simp [h1], fun j hj => ?_⟩
    by_cases hj2 : j < p.1.length
    · have := h2 j hj2
      rw [List.getElem_append_left hj2]
      rw [List.getD_eq_getElem?_getD] at this ⊢
      rw [List.getElem?_append_left (by omega)]
      exact this
    · have e : j = p.1.length := by simp at hj; omega
      subst e
      rw [List.getElem_append_right (by omega), List.getD_eq_getElem?_getD, List.getElem?_append_right (by omega), h1]
      simpa using hw
theorem leads_ex {x : α} {wd : ByteArray} (hw : goR nx x0 (bytesOf wd) = x ∧ lets (bytesOf wd) = true) : ∀ (d j : Nat) (p : St α), j + d ≤ 3 → Leads nx x0 p → Leads nx x0 (ex nx x wd d j p)
  | 0, j, p, _, h => h
  | d + 1, j, p, hj, h => by
    rw [ex]
    refine leads_ex hw d (j + 1) _ (by omega) (leads_put h ?_)
    obtain ⟨b, hb, hl⟩ := bytes_pc j (by omega)
    rw [bytes_append, hb]
    constructor
    · unfold goR at hw ⊢
      rw [List.foldl_append, hw.1]
      simp [hl]
    · unfold lets at hw ⊢
      rw [List.all_append, hw.2]
      simp [hl]
theorem ex_le (x : α) (wd : ByteArray) : ∀ (d j : Nat) (p : St α), p.1 <+: (ex nx x wd d j p).1
  | 0, j, p => List.prefix_refl _
  | d + 1, j, p => by
    rw [ex]
    refine List.IsPrefix.trans ?_ (ex_le x wd d (j + 1) _)
    unfold put
    split
    · exact List.prefix_refl _
    · exact List.prefix_append _ _
theorem put_mem (y : α) (wd : ByteArray) (p : St α) : y ∈ (put y wd p).1 := by
  unfold put
  split
  · assumption
  · simp
theorem ex_mem (x : α) (wd : ByteArray) : ∀ (d j : Nat) (p : St α) (k : Nat), j ≤ k → k < j + d → nx x k ∈ (ex nx x wd d j p).1
  | 0, j, p, k, h, h2 => by omega
  | d + 1, j, p, k, h, h2 => by
    rw [ex]
    by_cases e : k = j
    · subst e
      exact (ex_le x wd d (k + 1) _).subset (put_mem _ _ _)
    · exact ex_mem x wd d (j + 1) _ k (by omega) (by omega)
theorem bfs_true (hdn : ∀ x j, dom x → j < 3 → dom (nx x j)) : ∀ (d : Nat) (p : St α) (i : Nat) (s : ByteArray), Fit dom N p → Leads nx x0 p → bfs good nx d p i = (s, true) → good (goR nx x0 (bytesOf s)) = true ∧ lets (bytesOf s) = true ∧ s.size < N
  | 0, p, i, s, _, _, h => by simp [bfs] at h
  | d + 1, p, i, s, hf, hl, h => by
    rw [bfs] at h
    by_cases hi : i < p.1.length
    · rw [dif_pos hi] at h
      obtain ⟨h1, h2⟩ := hl.2 i hi
      by_cases hg : good p.1[i] = true
      · rw [if_pos hg] at h
        have e : p.2.getD i ByteArray.empty = s := congrArg Prod.fst h
        have h3 := hf.size i
        have h4 := hf.le
        rw [e] at h1 h2 h3
        rw [h1]
        exact ⟨hg, h2, by omega⟩
      · rw [if_neg hg] at h
        have hsz := hf.size i
        obtain ⟨hf2, _⟩ := fit_ex (nx := nx) (hf.all _ (List.getElem_mem hi)) hdn (wd := p.2.getD i ByteArray.empty) 3 0 p (by omega) hf (by omega)
        exact bfs_true hdn d _ (i + 1) s hf2 (leads_ex ⟨h1, h2⟩ 3 0 p (by omega) hl) h
    · rw [dif_neg hi] at h
      cases h
theorem bfs_false (hdn : ∀ x j, dom x → j < 3 → dom (nx x j)) : ∀ (d : Nat) (p : St α) (i : Nat) (s : ByteArray), Fit dom N p → i ≤ p.1.length → N + 2 ≤ d + i → x0 ∈ p.1 → (∀ j (hj : j < p.1.length), j < i → good p.1[j] = false ∧ ∀ k, k < 3 → nx p.1[j] k ∈ p.1) →
    bfs good nx d p i = (s, false) → ∃ R : List α, x0 ∈ R ∧ ∀ x ∈ R, good x = false ∧ ∀ k, k < 3 → nx x k ∈ R
  | 0, p, i, s, hf, hi, hd, _, _, _ => by have := hf.le; omega
  | d + 1, p, i, s, hf, hi, hd, hx, hc, h => by
    rw [bfs] at h
    by_cases hi2 : i < p.1.length
    · rw [dif_pos hi2] at h
      by_cases hg : good p.1[i] = true
      · rw [if_pos hg] at h
        cases h
      · rw [if_neg hg] at h
        have hsz := hf.size i
        obtain ⟨hf2, hle⟩ := fit_ex (nx := nx) (hf.all _ (List.getElem_mem hi2)) hdn (wd := p.2.getD i ByteArray.empty) 3 0 p (by omega) hf (by omega)
        have hpre := ex_le (nx := nx) p.1[i] (p.2.getD i ByteArray.empty) 3 0 p
        refine bfs_false hdn d _ (i + 1) s hf2 (by omega) (by omega) (hpre.subset hx) (fun j hj hji => ?_) h
        have hj2 : j < p.1.length := by omega
        have e := hpre.getElem hj2
        rw [← e]
        by_cases e2 : j = i
        · subst e2
          exact ⟨by simpa using hg, fun k hk => ex_mem _ _ 3 0 p k (by omega) (by omega)⟩
        · obtain ⟨h1, h2⟩ := hc j hj2 (by omega)
          exact ⟨h1, fun k hk => hpre.subset (h2 k hk)⟩
    · refine ⟨p.1, hx, fun x hxm => ?_⟩
      obtain ⟨j, hj, rfl⟩ := List.mem_iff_getElem.mp hxm
      exact hc j hj (by omega)
theorem leads0 (x : α) : Leads nx x ([x], [(⟨#[]⟩ : ByteArray)]) := by
  refine ⟨rfl, fun j hj => ?_⟩
  have e : j = 0 := by simp at hj; omega
  subst e
  exact ⟨rfl, rfl⟩
end
end Go.Proofs.Ytogamkblkoobkaa.Bf
end
section
namespace Go.Proofs.Ytogamkblkoobkaa.Can
open Go.RowKit Go.Proofs.Ytogamkblkoobkaa Go.Proofs.Ytogamkblkoobkaa.P Go.Proofs.Ytogamkblkoobkaa.Wk Go.Proofs.Ytogamkblkoobkaa.Lg Go.Proofs.Ytogamkblkoobkaa.Pl Go.Proofs.Ytogamkblkoobkaa.Mp Go.Proofs.Ytogamkblkoobkaa.Bf Go.Proofs.Ytogamkblkoobkaa.Mn Go.Proofs.YtogamkblkoobkaaW.PrintWords Go.Proofs.YtogamkblkoobkaaW.PrintLast Go.Proofs.YtogamkblkoobkaaW.PrintMore
set_option linter.unusedVariables false
set_option linter.unusedSimpArgs false
set_option linter.unusedSectionVars false
def Rows3 (n : Nat) (nx : List (List Int)) : Prop := nx.length = n ∧ ∀ r ∈ nx, r.length = 3 ∧ ∀ q ∈ r, 0 ≤ q ∧ q < (n : Int)
theorem outL_rows {L : Lan} {R : List Lan} (hR : Runs lsucc [L] 0 R) : Rows3 (outL R).1.length (outL R).2 := by
  have hcl := hR.closed (fun j _ hj => by omega)
  have hlen : (outL R).1.length = R.length := by simp [outL]
  refine ⟨by simp [outL], fun r hr => ?_⟩
  obtain ⟨X, hX, rfl⟩ := List.mem_map.mp hr
  refine ⟨by simp [lsucc], fun q hq => ?_⟩
  obtain ⟨Y, hY, rfl⟩ := List.mem_map.mp hq
  have := List.idxOf_lt_length_of_mem (hcl X hX Y hY)
  rw [hlen]
  omega
theorem outL_run {L : Lan} {R : List Lan} (hR : Runs lsucc [L] 0 R) : ∀ (w : List (Fin 3)) (i : Nat) (hi : i < R.length), run (outL R).1 (outL R).2 w (i : Int) = R[i] w := by
  have hcl := hR.closed (fun j _ hj => by omega)
  intro w
  induction w with
  | nil =>
    intro i hi
    show rdOf false (R.map eps) (i : Int) = _
    rw [rdOf_get false _ i (by simpa using hi), List.getElem_map]
    rfl
  | cons k w ih =>
    intro i hi
    show run _ _ w (rd (rowOf (outL R).2 (i : Int)) (k.val : Int)) = _
    have hrow : rowOf (outL R).2 (i : Int) = (lsucc R[i]).map (fun Y => (R.idxOf Y : Int)) := by
      unfold rowOf outL
      rw [Int.toNat_natCast, List.getD_eq_getElem?_getD, List.getElem?_eq_getElem (by simpa using hi), Option.getD_some, List.getElem_map]
    have hk : rd ((lsucc R[i]).map (fun Y => (R.idxOf Y : Int))) (k.val : Int) = (R.idxOf (der R[i] k) : Int) := by
      match k with
      | 0 => rfl
      | 1 => rfl
      | 2 => rfl
    have hm : der R[i] k ∈ R := by
      refine hcl _ (List.getElem_mem hi) _ ?_
      match k with
      | 0 => simp [lsucc]
      | 1 => simp [lsucc]
      | 2 => simp [lsucc]
    rw [hrow, hk, ih _ (List.idxOf_lt_length_of_mem hm), List.getElem_idxOf (List.idxOf_lt_length_of_mem hm)]
    rfl
theorem IsCan.facts {L : Lan} {out : List Bool × List (List Int)} (h : IsCan L out) : 1 ≤ out.1.length ∧ Rows3 out.1.length out.2 ∧ lang out.1 out.2 0 = L := by
  obtain ⟨R, hR, rfl⟩ := h
  obtain ⟨t, rfl⟩ := hR.pre
  refine ⟨by simp [outL], outL_rows hR, funext fun w => ?_⟩
  exact outL_run hR w 0 (by simp)
theorem valid_of {acc : List Bool} {nx : List (List Int)} (h1 : 1 ≤ acc.length) (h2 : acc.length ≤ 40) (h3 : Rows3 acc.length nx) : validD acc nx = true := by
  unfold validD
  rw [decide_eq_true h1, decide_eq_true h2, decide_eq_true h3.1, Bool.and_self, Bool.and_self, Bool.true_and, Bool.not_eq_true', List.any_eq_false]
  intro r hr
  obtain ⟨h4, h5⟩ := h3.2 r hr
  unfold badRow
  rw [Bool.not_eq_true, Bool.or_eq_false_iff]
  refine ⟨decide_eq_false (by omega), ?_⟩
  rw [List.any_eq_false]
  intro q hq
  obtain ⟨h6, h7⟩ := h5 q hq
  unfold badState
  rw [decide_eq_true h6, decide_eq_true (show q ≤ (acc.length : Int) - 1 by omega)]
  decide
theorem minD_valid {a : List Bool} {n : List (List Int)} (hv : validD a n = true) : validD (minD a n 0).1 (minD a n 0).2 = true ∧ lang (minD a n 0).1 (minD a n 0).2 0 = lang a n 0 := by
  obtain ⟨h1, h2, h3, h4⟩ := validD_facts hv
  obtain ⟨c1, c2, c3⟩ := (min_can (fits_valid hv) (st := 0) (by omega)).facts
  obtain ⟨l1, l2, l3⟩ := minD_len (fits_valid hv) (st := 0) (by omega)
  exact ⟨valid_of c1 (by omega) c2, c3⟩
theorem min_eq {a b : List Bool} {n m : List (List Int)} (hv : validD a n = true) (hw : validD b m = true) (h : lang a n 0 = lang b m 0) : minD a n 0 = minD b m 0 := by
  obtain ⟨h1, _⟩ := validD_facts hv
  obtain ⟨g1, _⟩ := validD_facts hw
  have c := min_can (fits_valid hv) (st := 0) (by omega)
  rw [h] at c
  exact c.det (min_can (fits_valid hw) (st := 0) (by omega))
theorem minOf_min (a : List Bool) (n : List (List Int)) : minOf (minOf a n).1 (minOf a n).2 = minOf a n := by
  unfold minOf
  by_cases hv : validD a n = true
  · obtain ⟨h1, h2⟩ := minD_valid hv
    rw [if_pos hv, if_pos h1]
    exact min_eq h1 hv h2
  · rw [if_neg hv]
    rfl
section
variable {a b : List Bool} {n m : List (List Int)}
theorem pair_dom (hv : validD a n = true) (hw : validD b m = true) : ∀ (x : Pr) (j : Nat), ((0 ≤ x.1 ∧ x.1 < (a.length : Int)) ∧ 0 ≤ x.2 ∧ x.2 < (b.length : Int)) → j < 3 → ((0 ≤ (nxP n m x j).1 ∧ (nxP n m x j).1 < (a.length : Int)) ∧ 0 ≤ (nxP n m x j).2 ∧ (nxP n m x j).2 < (b.length : Int)) := by
  intro x j hx hj
  have f1 := (fits_valid hv).row x.1 hx.1
  have f2 := (fits_valid hw).row x.2 hx.2
  refine ⟨f1.2 _ ?_, f2.2 _ ?_⟩
  · show rd (rowOf n x.1) (j : Int) ∈ rowOf n x.1
    rw [rd_get _ j (by omega)]
    exact List.getElem_mem _
  · show rd (rowOf m x.2) (j : Int) ∈ rowOf m x.2
    rw [rd_get _ j (by omega)]
    exact List.getElem_mem _
theorem pair_fit (hv : validD a n = true) (hw : validD b m = true) : Bf.Fit (fun x : Pr => (0 ≤ x.1 ∧ x.1 < (a.length : Int)) ∧ 0 ≤ x.2 ∧ x.2 < (b.length : Int)) (a.length * b.length) ([((0 : Int), (0 : Int))], [(⟨#[]⟩ : ByteArray)]) := by
  obtain ⟨h1, _⟩ := validD_facts hv
  obtain ⟨g1, _⟩ := validD_facts hw
  exact fit0 ⟨⟨by omega, by omega⟩, by omega, by omega⟩ (fun s hn hs => card_pairs a.length b.length s hn hs)
theorem goR_pair : ∀ (l : List Int) (x : Pr), lets l = true → goR (nxP n m) x l = (runD n x.1 l, runD m x.2 l)
  | [], x, _ => rfl
  | c :: l, x, h => by
    rw [lets_cons] at h
    have e : letIdx c = ((letIdx c).toNat : Int) := by omega
    show goR (nxP n m) (nxP n m x (letIdx c).toNat) l = _
    rw [goR_pair l _ h.2]
    have e1 : (nxP n m x (letIdx c).toNat).1 = rd (rd_L1 n x.1) (letIdx c) := by
      conv => rhs; rw [e]
      rfl
    have e2 : (nxP n m x (letIdx c).toNat).2 = rd (rd_L1 m x.2) (letIdx c) := by
      conv => rhs; rw [e]
      rfl
    rw [e1, e2]
    rfl
theorem differ_some {good : Bool → Bool → Bool} {s : ByteArray} (hv : validD a n = true) (hw : validD b m = true) (hsz : a.length * b.length ≤ 31) (h : fpR good a n b m = (s, true)) : s.size ≤ 30 ∧ good (accOf a n s) (accOf b m s) = true := by
  unfold fpR at h
  rw [if_pos ⟨hv, hw⟩] at h
  obtain ⟨h1, h2, h3⟩ := bfs_true (pair_dom hv hw) 1602 _ 0 s (pair_fit hv hw) (leads0 _) h
  rw [goR_pair _ _ h2] at h1
  have hword : word s = true := by
    unfold word
    rw [h2, decide_eq_true (show s.size ≤ 30 by omega)]
    rfl
  unfold accOf
  rw [hv, hw, hword]
  exact ⟨by omega, h1⟩
theorem differ_none {good : Bool → Bool → Bool} {s : ByteArray} (hv : validD a n = true) (hw : validD b m = true) (h : fpR good a n b m = (s, false)) : ∀ w : List (Fin 3), good (lang a n 0 w) (lang b m 0 w) = false := by
  unfold fpR at h
  rw [if_pos ⟨hv, hw⟩] at h
  obtain ⟨_, h2, _, _⟩ := validD_facts hv
  obtain ⟨_, g2, _, _⟩ := validD_facts hw
  have hN : a.length * b.length ≤ 40 * 40 := Nat.mul_le_mul h2 g2
  obtain ⟨R, hx, hR⟩ := bfs_false (x0 := ((0 : Int), (0 : Int))) (pair_dom hv hw) 1602 _ 0 s (pair_fit hv hw) (by simp) (by omega) (by simp) (fun j _ hj => by omega) h
  have H : ∀ (w : List (Fin 3)) (x : Pr), x ∈ R → good (run a n w x.1) (run b m w x.2) = false := by
    intro w
    induction w with
    | nil => exact fun x hx => (hR x hx).1
    | cons k w ih => exact fun x hx => ih _ ((hR x hx).2 k.val k.isLt)
  exact fun w => H w _ hx
end
end Go.Proofs.Ytogamkblkoobkaa.Can
end
section
namespace Go.Proofs.Ytogamkblkoobkaa.P
open Go.RowKit Go.Proofs.YtogamkblkoobkaaW.PrintWords Go.Proofs.YtogamkblkoobkaaW.PrintLast Go.Proofs.YtogamkblkoobkaaW.PrintMore
attribute [local go_sem] max2_int min2_int max_two min_two max_three min_three max_four min_four
set_option linter.unusedVariables false
set_option linter.unusedSimpArgs false
end Go.Proofs.Ytogamkblkoobkaa.P
end
section
namespace Go.Proofs.Ytogamkblkoobkaa.P
open Go.RowKit Go.Proofs.YtogamkblkoobkaaW.PrintWords Go.Proofs.YtogamkblkoobkaaW.PrintLast Go.Proofs.YtogamkblkoobkaaW.PrintMore
attribute [local go_sem] max2_int min2_int max_two min_two max_three min_three max_four min_four
set_option linter.unusedVariables false
set_option linter.unusedSimpArgs false
end Go.Proofs.Ytogamkblkoobkaa.P
end
section
namespace Go.Proofs.Ytogamkblkoobkaa.P
open Go.RowKit Go.Proofs.YtogamkblkoobkaaW.PrintWords Go.Proofs.YtogamkblkoobkaaW.PrintLast Go.Proofs.YtogamkblkoobkaaW.PrintMore
attribute [local go_sem] max2_int min2_int max_two min_two max_three min_three max_four min_four
set_option linter.unusedVariables false
set_option linter.unusedSimpArgs false
end Go.Proofs.Ytogamkblkoobkaa.P
end
section
namespace Go.Proofs.Ytogamkblkoobkaa.Pl
open Go.RowKit Go.Proofs.Ytogamkblkoobkaa.P Go.Proofs.YtogamkblkoobkaaW.PrintWords Go.Proofs.YtogamkblkoobkaaW.PrintLast Go.Proofs.YtogamkblkoobkaaW.PrintMore
set_option linter.unusedVariables false
set_option linter.unusedSimpArgs false
theorem new_l0 (b : List Int) (hb : b.length ≤ 140737488351232) : ∀ (d i : Nat) (h : Int), i + d = b.length → ∃ r, Ev (fun k => spec_l1New.l0 k b h i) (b, 0, r) := by
  intro d
  induction d with
  | zero =>
    intro i h e
    refine ⟨h, next ?_⟩
    simp only [spec_l1New.l0, if_neg (show ¬ (i : Int) < (b.length : Int) by omega)]
    exact Ev.now _
  | succ d ih =>
    intro i h e
    by_cases hi : (i : Int) < 4000
    · obtain ⟨r, hr⟩ := ih (i + 1) (Go.bits .and .i64 (wrap64 ((wrap64 ((wrap64 (h * 131)) + (wrap64 (rd b i)))) + 7)) 1073741823) (by omega)
      refine ⟨r, next ?_⟩
      simp only [spec_l1New.l0, if_pos (show (i : Int) < (b.length : Int) by omega), if_pos hi, if_pos (show (0 : Int) ≤ i by omega), up1 (show i < 9223372036854775807 by omega)]
      exact hr
    · refine ⟨h, next ?_⟩
      simp only [spec_l1New.l0, if_pos (show (i : Int) < (b.length : Int) by omega), if_neg hi]
      exact Ev.now _
theorem new (b : List Int) (hb : b.length ≤ 140737488351232) : ∃ r, Ev (fun k => spec_l1New.f k b) (b, 0, r) := by
  simp only [spec_l1New.f]
  exact new_l0 b hb b.length 0 _ (by omega)
theorem and255 (x : Int) : 0 ≤ Go.bits .and .i64 x 255 ∧ Go.bits .and .i64 x 255 ≤ 255 := by
  have h : (BitVec.ofInt 64 x &&& BitVec.ofInt 64 255).toNat ≤ 255 := by
    rw [BitVec.toNat_and]
    exact Nat.and_le_right
  have e : Go.bits .and .i64 x 255 = ((BitVec.ofInt 64 x &&& BitVec.ofInt 64 255).toNat : Int) := by
    show IntKind.i64.wrap ((BitVec.ofInt 64 x &&& BitVec.ofInt 64 255).toNat : Int) = _
    rw [IntKind.wrap_i64]
    omega
  omega
def Cur (b : List Int) (i : Int) : Prop := 0 ≤ i ∧ i ≤ b.length
theorem byte (b : List Int) (hb : b.length ≤ 140737488351232) (i h : Int) (hi : Cur b i) : ∃ x i' h', spec_l1Byte.f b i h = some (x, i', h') ∧ 0 ≤ x ∧ x ≤ 255 ∧ Cur b i' := by
  unfold Cur at hi ⊢
  by_cases hl : i < (b.length : Int)
  · unfold spec_l1Byte.f
    rw [if_pos hl, if_pos hi.1, w64 (show -9223372036854775808 ≤ i + 1 by omega) (by omega)]
    exact ⟨_, _, _, rfl, (and255 _).1, (and255 _).2, by omega, by omega⟩
  · unfold spec_l1Byte.f
    rw [if_neg hl]
    exact ⟨_, _, _, rfl, (and255 _).1, (and255 _).2, by omega, by omega⟩
theorem below (b : List Int) (hb : b.length ≤ 140737488351232) (i h : Int) (hi : Cur b i) (n : Int) (hn : 0 < n) (hn2 : n ≤ 256) : ∃ x i' h', spec_l1Below.f b i h n = some (x, i', h') ∧ 0 ≤ x ∧ x < n ∧ Cur b i' := by
  obtain ⟨x, i', h', e, hx, hx2, hc⟩ := byte b hb i h hi
  refine ⟨x % n, i', h', ?_, by exact Int.emod_nonneg _ (by omega), Int.emod_lt_of_pos _ hn, hc⟩
  simp only [spec_l1Below.f, if_neg (show ¬ n ≤ 0 by omega), if_pos hn2, e, Option.bind_some, if_neg (show ¬ n = 0 by omega), Int.tmod_eq_emod_of_nonneg hx]
theorem cur0 (b : List Int) : Cur b 0 := ⟨by omega, by omega⟩
end Go.Proofs.Ytogamkblkoobkaa.Pl
end
section
namespace Go.Proofs.Ytogamkblkoobkaa.Pl
open Go.RowKit Go.Proofs.Ytogamkblkoobkaa.P Go.Proofs.YtogamkblkoobkaaW.PrintWords Go.Proofs.YtogamkblkoobkaaW.PrintLast Go.Proofs.YtogamkblkoobkaaW.PrintMore
set_option linter.unusedVariables false
set_option linter.unusedSimpArgs false
def OkRow (n : Nat) (r : List Int) : Prop := r.length = 3 ∧ ∀ q ∈ r, 0 ≤ q ∧ q < (n : Int)
section
variable (b : List Int) (hb : b.length ≤ 140737488351232)
include hb
theorem once (i h : Int) (hi : Cur b i) (n : Int) (hn : 0 < n) (hn2 : n ≤ 256) : ∃ x i' h', spec_l1Once.f b i h n = some (x, i', h') ∧ Cur b i' := by
  obtain ⟨x, i', h', e, _, _, hc⟩ := below b hb i h hi n hn hn2
  refine ⟨x == 0, i', h', ?_, hc⟩
  simp only [spec_l1Once.f, e, Option.bind_some]
theorem draw_row (n : Nat) (hn : 1 ≤ n) (hn2 : n ≤ 100) (q : Int) (hq : 0 ≤ q ∧ q ≤ 1000) (acc : List Bool) (nx : List (List Int)) (hx : nx.length ≤ 1000) : ∀ (d j : Nat) (row : List Int) (i h : Int), j + d = 3 → row.length = j → (∀ x ∈ row, 0 ≤ x ∧ x < (n : Int)) → Cur b i →
    ∃ row' i' h', OkRow n row' ∧ Cur b i' ∧ ∀ r, Ev (fun k => spec_l5Draw.l0 k (n : Int) (q + 1) b i' h' acc (nx ++ [row'])) r → Ev (fun k => spec_l5Draw.l1 k (n : Int) q row (j : Int) b i h acc nx) r := by
  intro d
  induction d with
  | zero =>
    intro j row i h hj hr ho hi
    refine ⟨row, i, h, ⟨by omega, ho⟩, hi, fun r hrr => next ?_⟩
    simp only [spec_l5Draw.l1, if_neg (show ¬ (j : Int) < 3 by omega), if_pos (show nx.length < 5864062014805 by omega)]
    rw [w64 (show -9223372036854775808 ≤ q + 1 by omega) (by omega)]
    exact hrr
  | succ d ih =>
    intro j row i h hj hr ho hi
    obtain ⟨x, i1, h1, e, x0, x1, c1⟩ := below b hb i h hi (n : Int) (by omega) (by omega)
    obtain ⟨row', i', h', o', c', H⟩ := ih (j + 1) (row ++ [x]) i1 h1 (by omega) (by simp [hr]) (fun y hy => by
      rcases List.mem_append.mp hy with hy | hy
      · exact ho y hy
      · rw [List.mem_singleton] at hy; subst hy; exact ⟨x0, x1⟩) c1
    refine ⟨row', i', h', o', c', fun r hrr => next ?_⟩
    simp only [spec_l5Draw.l1, if_pos (show (j : Int) < 3 by omega), e, Option.bind_some, if_pos (show row.length < 17592186044416 by omega)]
    rw [up1 (by omega)]
    exact H r hrr
theorem draw_l0 (n : Nat) (hn : 1 ≤ n) (hn2 : n ≤ 100) : ∀ (d q : Nat) (acc : List Bool) (nx : List (List Int)) (i h : Int), q + d = n → acc.length = q → nx.length = q → (∀ r ∈ nx, OkRow n r) → Cur b i →
    ∃ acc' nx' i' h', Ev (fun k => spec_l5Draw.l0 k (n : Int) (q : Int) b i h acc nx) (acc', nx', i', h') ∧ acc'.length = n ∧ nx'.length = n ∧ (∀ r ∈ nx', OkRow n r) ∧ Cur b i' := by
  intro d
  induction d with
  | zero =>
    intro q acc nx i h hq ha hx ho hi
    refine ⟨acc, nx, i, h, next ?_, by omega, by omega, ho, hi⟩
    simp only [spec_l5Draw.l0, if_neg (show ¬ (q : Int) < (n : Int) by omega)]
    exact Ev.now _
  | succ d ih =>
    intro q acc nx i h hq ha hx ho hi
    obtain ⟨x, i1, h1, e, c1⟩ := once b hb i h hi 2 (by omega) (by omega)
    obtain ⟨row', i2, h2, o2, c2, H⟩ := draw_row b hb n hn hn2 (q : Int) (by omega) (acc ++ [x]) nx (by omega) 3 0 [] i1 h1 rfl rfl (fun _ hx => by cases hx) c1
    obtain ⟨acc', nx', i', h', hev, la, ln, oo, cc⟩ := ih (q + 1) (acc ++ [x]) (nx ++ [row']) i2 h2 (by omega) (by simp [ha]) (by simp [hx]) (fun r hr => by
      rcases List.mem_append.mp hr with hr | hr
      · exact ho r hr
      · rw [List.mem_singleton] at hr; subst hr; exact o2) c2
    refine ⟨acc', nx', i', h', next ?_, la, ln, oo, cc⟩
    simp only [spec_l5Draw.l0, if_pos (show (q : Int) < (n : Int) by omega), e, Option.bind_some, if_pos (show acc.length < 140737488355328 by omega)]
    exact H _ hev
theorem draw (i h : Int) (hi : Cur b i) (m : Nat) (hm : 1 ≤ m) (hm2 : m ≤ 99) : ∃ acc nx i' h', Ev (fun k => spec_l5Draw.f k b i h (m : Int)) (acc, nx, i', h') ∧ 1 ≤ acc.length ∧ acc.length ≤ m ∧ nx.length = acc.length ∧ (∀ r ∈ nx, OkRow acc.length r) ∧ Cur b i' := by
  obtain ⟨x, i1, h1, e, x0, x1, c1⟩ := below b hb i h hi (m : Int) (by omega) (by omega)
  obtain ⟨t, rfl⟩ : ∃ t : Nat, x = (t : Int) := ⟨x.toNat, by omega⟩
  obtain ⟨acc, nx, i', h', hev, la, ln, oo, cc⟩ := draw_l0 b hb (t + 1) (by omega) (by omega) (t + 1) 0 [] [] i1 h1 (by omega) rfl rfl (fun _ hx => by cases hx) c1
  refine ⟨acc, nx, i', h', ?_, by omega, by omega, by omega, by rw [la]; exact oo, cc⟩
  simp only [spec_l5Draw.f, e, Option.bind_some]
  rw [w64 (show -9223372036854775808 ≤ 1 + (t : Int) by omega) (by omega), show 1 + (t : Int) = ((t + 1 : Nat) : Int) by omega]
  exact hev
theorem bent (i h : Int) (hi : Cur b i) : ∃ acc nx i' h', Ev (fun k => spec_l5Bent.f k b i h) (acc, nx, i', h') ∧ acc.length ≤ 6 ∧ nx.length ≤ 6 ∧ (∀ r ∈ nx, r.length ≤ 4) ∧ Cur b i' := by
  obtain ⟨acc, nx, i1, h1, hev, a1, a2, a3, a4, c1⟩ := draw b hb i h hi 5 (by omega) (by omega)
  obtain ⟨x, i2, h2, e, x0, x1, c2⟩ := below b hb i1 h1 c1 12 (by omega) (by omega)
  have h0 : 0 < nx.length := by omega
  have hr0 : (rd_L1 nx 0).length = 3 := by
    show (nx.getD (0 : Int).toNat []).length = 3
    rw [List.getD_eq_getElem?_getD, show (0 : Int).toNat = 0 from rfl, List.getElem?_eq_getElem h0]
    exact (a4 _ (List.getElem_mem h0)).1
  have hset : ∀ y : List Int, y.length ≤ 4 → ∀ r ∈ nx.set 0 y, r.length ≤ 4 := fun y hy r hr => by
    rcases List.mem_or_eq_of_mem_set hr with hr | hr
    · have := (a4 r hr).1; omega
    · subst hr; exact hy
  by_cases e0 : x = 0
  · refine ⟨acc, nx.set 0 ((rd_L1 nx 0).set 0 (acc.length : Int)), i2, h2, ?_, by omega, by rw [List.length_set]; omega, hset _ (by rw [List.length_set]; omega), c2⟩
    simp only [spec_l5Bent.f]
    refine Ev.bind hev ?_
    simp only [e, Option.bind_some, if_pos e0, if_pos (show (0 : Int) < (nx.length : Int) by omega), if_pos (show (0 : Int) < ((rd_L1 nx 0).length : Int) by omega)]
    exact Ev.now _
  · by_cases e1 : x = 1
    · refine ⟨acc ++ [true], nx, i2, h2, ?_, by simp; omega, by omega, fun r hr => by have := (a4 r hr).1; omega, c2⟩
      simp only [spec_l5Bent.f]
      refine Ev.bind hev ?_
      simp only [e, Option.bind_some, if_neg e0, if_pos e1, if_pos (show acc.length < 140737488355328 by omega)]
      exact Ev.now _
    · by_cases e2 : x = 2
      · refine ⟨acc, nx.set 0 ((rd_L1 nx 0) ++ [0]), i2, h2, ?_, by omega, by rw [List.length_set]; omega, hset _ (by rw [List.length_append, hr0]; decide), c2⟩
        simp only [spec_l5Bent.f]
        refine Ev.bind hev ?_
        simp only [e, Option.bind_some, if_neg e0, if_neg e1, if_pos e2, if_pos (show (0 : Int) < (nx.length : Int) by omega), if_pos (show (rd_L1 nx 0).length < 17592186044416 by omega)]
        exact Ev.now _
      · refine ⟨acc, nx, i2, h2, ?_, by omega, by omega, fun r hr => by have := (a4 r hr).1; omega, c2⟩
        simp only [spec_l5Bent.f]
        refine Ev.bind hev ?_
        simp only [e, Option.bind_some, if_neg e0, if_neg e1, if_neg e2]
        exact Ev.now _
end
end Go.Proofs.Ytogamkblkoobkaa.Pl
end
section
namespace Go.Proofs.Ytogamkblkoobkaa.Pl
open Go.RowKit Go.Proofs.Ytogamkblkoobkaa.P Go.Proofs.YtogamkblkoobkaaW.PrintWords Go.Proofs.YtogamkblkoobkaaW.PrintLast Go.Proofs.YtogamkblkoobkaaW.PrintMore Wk Rk
set_option linter.unusedVariables false
set_option linter.unusedSimpArgs false
theorem spec_ints_l0 (a b : List Int) (hl : a.length = b.length) (hn : a.length ≤ 1048576) : ∀ d i : Nat, i + d = a.length → Ev (fun k => spec_l5Ints.l0 k a b i) (decide (a.drop i = b.drop i)) := by
  intro d
  induction d with
  | zero =>
    intro i h
    refine next ?_
    simp only [spec_l5Ints.l0, if_neg (show ¬ (i : Int) < (a.length : Int) by omega)]
    exact ev_some (by rw [List.drop_eq_nil_of_le (by omega), List.drop_eq_nil_of_le (by omega)]; simp)
  | succ d ih =>
    intro i h
    refine next ?_
    have ha : i < a.length := by omega
    have hb : i < b.length := by omega
    have e : (a.drop i = b.drop i) ↔ (a[i] = b[i] ∧ a.drop (i + 1) = b.drop (i + 1)) := by
      rw [List.drop_eq_getElem_cons ha, List.drop_eq_getElem_cons hb]
      exact List.cons_eq_cons
    simp only [spec_l5Ints.l0, if_pos (show (i : Int) < (a.length : Int) by omega), if_pos (show (0 : Int) ≤ i by omega), if_pos (show (i : Int) < (b.length : Int) by omega), rd_get a i ha, rd_get b i hb]
    by_cases he : a[i] = b[i]
    · simp only [if_pos he, up1 (show i < 9223372036854775807 by omega)]
      exact ev_eq (ih (i + 1) (by omega)) (decide_eq_decide.mpr (by rw [e]; exact ⟨fun x => ⟨he, x⟩, fun x => x.2⟩))
    · simp only [if_neg he]
      exact ev_some (by rw [eq_comm, decide_eq_false_iff_not, e]; exact fun x => he x.1)
theorem spec_ints (a b : List Int) (hn : a.length ≤ 1048576) : Ev (fun k => spec_l5Ints.f k a b) (decide (a = b)) := by
  simp only [spec_l5Ints.f]
  by_cases h : a.length = b.length
  · simp only [if_pos (show (a.length : Int) = (b.length : Int) by omega)]
    exact spec_ints_l0 a b h hn a.length 0 (by omega)
  · simp only [if_neg (show ¬ (a.length : Int) = (b.length : Int) by omega)]
    exact ev_some (by simp; intro e; exact h (by rw [e]))
theorem spec_equal_l1 (a : List Bool) (n : List (List Int)) (b : List Bool) (m : List (List Int)) (hl : n.length = m.length) (hn : n.length ≤ 1048576) (hx : ∀ x ∈ n, x.length ≤ 1048576) : ∀ d i : Nat, i + d = n.length → Ev (fun k => spec_EqualDfa.l1 k i a n b m) (decide (n.drop i = m.drop i)) := by
  intro d
  induction d with
  | zero =>
    intro i h
    refine next ?_
    simp only [spec_EqualDfa.l1, if_neg (show ¬ (i : Int) < (n.length : Int) by omega)]
    exact ev_some (by rw [List.drop_eq_nil_of_le (by omega), List.drop_eq_nil_of_le (by omega)]; simp)
  | succ d ih =>
    intro i h
    refine next ?_
    have ha : i < n.length := by omega
    have hb : i < m.length := by omega
    have e : (n.drop i = m.drop i) ↔ (n[i] = m[i] ∧ n.drop (i + 1) = m.drop (i + 1)) := by
      rw [List.drop_eq_getElem_cons ha, List.drop_eq_getElem_cons hb]
      exact List.cons_eq_cons
    simp only [spec_EqualDfa.l1, if_pos (show (i : Int) < (n.length : Int) by omega), if_pos (show (0 : Int) ≤ i by omega), if_pos (show (i : Int) < (m.length : Int) by omega), rows_get n i ha, rows_get m i hb]
    refine Ev.bind (spec_ints n[i] m[i] (hx _ (List.getElem_mem _))) ?_
    by_cases he : n[i] = m[i]
    · simp only [decide_eq_true he, if_true, up1 (show i < 9223372036854775807 by omega)]
      exact ev_eq (ih (i + 1) (by omega)) (decide_eq_decide.mpr (by rw [e]; exact ⟨fun x => ⟨he, x⟩, fun x => x.2⟩))
    · simp only [decide_eq_false he, Bool.false_ne_true, if_false]
      exact ev_some (by rw [eq_comm, decide_eq_false_iff_not, e]; exact fun x => he x.1)
theorem spec_equal_l0 (a : List Bool) (n : List (List Int)) (b : List Bool) (m : List (List Int)) (hab : a.length = b.length) (ha : a.length ≤ 1048576) (hl : n.length = m.length) (hn : n.length ≤ 1048576) (hx : ∀ x ∈ n, x.length ≤ 1048576) : ∀ d i : Nat, i + d = a.length → Ev (fun k => spec_EqualDfa.l0 k i a n b m) (decide (a.drop i = b.drop i) && decide (n = m)) := by
  intro d
  induction d with
  | zero =>
    intro i h
    refine next ?_
    simp only [spec_EqualDfa.l0, if_neg (show ¬ (i : Int) < (a.length : Int) by omega)]
    rw [List.drop_eq_nil_of_le (by omega), List.drop_eq_nil_of_le (by omega)]
    simp only [decide_true, Bool.true_and]
    exact spec_equal_l1 a n b m hl hn hx n.length 0 (by omega)
  | succ d ih =>
    intro i h
    refine next ?_
    have h1 : i < a.length := by omega
    have h2 : i < b.length := by omega
    have e : (a.drop i = b.drop i) ↔ (a[i] = b[i] ∧ a.drop (i + 1) = b.drop (i + 1)) := by
      rw [List.drop_eq_getElem_cons h1, List.drop_eq_getElem_cons h2]
      exact List.cons_eq_cons
    simp only [spec_EqualDfa.l0, if_pos (show (i : Int) < (a.length : Int) by omega), if_pos (show (0 : Int) ≤ i by omega), if_pos (show (i : Int) < (b.length : Int) by omega), rdOf_get _ a i h1, rdOf_get _ b i h2]
    by_cases he : a[i] = b[i]
    · simp only [show (a[i] != b[i]) = false from bne_eq_false_iff_eq.mpr he, Bool.false_ne_true, if_false, up1 (show i < 9223372036854775807 by omega)]
      refine ev_eq (ih (i + 1) (by omega)) ?_
      rw [decide_eq_decide.mpr (show (a.drop (i + 1) = b.drop (i + 1)) ↔ (a.drop i = b.drop i) by rw [e]; exact ⟨fun x => ⟨he, x⟩, fun x => x.2⟩)]
    · simp only [show (a[i] != b[i]) = true from bne_iff_ne.mpr he, if_true]
      exact ev_some (by rw [decide_eq_false (show ¬ (a.drop i = b.drop i) by rw [e]; exact fun x => he x.1), Bool.false_and])
theorem spec_equal (a : List Bool) (n : List (List Int)) (b : List Bool) (m : List (List Int)) (ha : a.length ≤ 1048576) (hn : n.length ≤ 1048576) (hx : ∀ x ∈ n, x.length ≤ 1048576) : Ev (fun k => spec_EqualDfa.f k a n b m) (decide (a = b) && decide (n = m)) := by
  have jt : Ev (fun k => spec_EqualDfa.j0 k true a n b m) false := by
    refine next ?_
    simp only [spec_EqualDfa.j0, if_true]
    exact Ev.now _
  simp only [spec_EqualDfa.f]
  by_cases h1 : a.length = b.length
  · simp only [if_pos (show (a.length : Int) = (b.length : Int) by omega)]
    by_cases h2 : n.length = m.length
    · have e2 : ((n.length : Int) != (m.length : Int)) = false := by rw [bne_eq_false_iff_eq]; omega
      simp only [e2]
      refine next ?_
      simp only [spec_EqualDfa.j0, Bool.false_ne_true, if_false]
      exact spec_equal_l0 a n b m h1 ha h2 hn hx a.length 0 (by omega)
    · have e2 : ((n.length : Int) != (m.length : Int)) = true := by rw [bne_iff_ne]; omega
      simp only [e2]
      rw [decide_eq_false (show ¬ n = m from fun e => h2 (by rw [e])), Bool.and_false]
      exact jt
  · simp only [if_neg (show ¬ (a.length : Int) = (b.length : Int) by omega)]
    rw [decide_eq_false (show ¬ a = b from fun e => h1 (by rw [e])), Bool.false_and]
    exact jt
end Go.Proofs.Ytogamkblkoobkaa.Pl
end
section
namespace Go.Proofs.Ytogamkblkoobkaa.Pl
open Go.RowKit Go.Proofs.Ytogamkblkoobkaa Go.Proofs.Ytogamkblkoobkaa.P Go.Proofs.Ytogamkblkoobkaa.Wk Go.Proofs.Ytogamkblkoobkaa.Bf Go.Proofs.YtogamkblkoobkaaW.PrintWords Go.Proofs.YtogamkblkoobkaaW.PrintLast Go.Proofs.YtogamkblkoobkaaW.PrintMore
set_option linter.unusedVariables false
set_option linter.unusedSimpArgs false
set_option linter.unusedSectionVars false
theorem find_l0 (l : List Int) (y : Int) (hl : l.length ≤ 140737488351232) : ∀ d i : Nat, i + d = l.length → Ev (fun k => spec_l5Find.l0 k l y i) (if y ∈ l.drop i then ((i + (l.drop i).idxOf y : Nat) : Int) else -1) := by
  intro d
  induction d with
  | zero =>
    intro i h
    refine next ?_
    simp only [spec_l5Find.l0, if_neg (show ¬ (i : Int) < (l.length : Int) by omega)]
    exact ev_some (by rw [List.drop_eq_nil_of_le (by omega)]; simp)
  | succ d ih =>
    intro i h
    have hi : i < l.length := by omega
    refine next ?_
    simp only [spec_l5Find.l0, if_pos (show (i : Int) < (l.length : Int) by omega), if_pos (show (0 : Int) ≤ i by omega), rd_get l i hi]
    rw [List.drop_eq_getElem_cons hi]
    by_cases he : l[i] = y
    · simp only [if_pos he]
      exact ev_some (by rw [if_pos (by simp [he]), List.idxOf_cons, he]; simp)
    · simp only [if_neg he, up1 (show i < 9223372036854775807 by omega)]
      refine ev_eq (ih (i + 1) (by omega)) ?_
      have hne : ¬ y = l[i] := fun e => he e.symm
      by_cases hm : y ∈ l.drop (i + 1)
      · rw [if_pos hm, if_pos (List.mem_cons_of_mem _ hm), List.idxOf_cons, beq_false_of_ne he]
        simp only [cond_false]
        omega
      · rw [if_neg hm, if_neg (fun hh => by rcases List.mem_cons.mp hh with q | q; exact hne q; exact hm q)]
theorem spec_find (l : List Int) (y : Int) (hl : l.length ≤ 140737488351232) : Ev (fun k => spec_l5Find.f k l y) (if y ∈ l then (l.idxOf y : Int) else -1) := by
  simp only [spec_l5Find.f]
  have := find_l0 l y hl l.length 0 (by omega)
  rw [List.drop_zero, Nat.zero_add] at this
  exact this
section
variable (acc goal : List Bool) (nxt : List (List Int)) (n : Nat) (hn : n ≤ 2000) (hl : nxt.length = n) (hg : goal.length = n) (hrow : ∀ r ∈ nxt, r.length = 3 ∧ ∀ q ∈ r, 0 ≤ q ∧ q < (n : Int))
include hn hl hg hrow
theorem nx_row {x : Int} (hx : 0 ≤ x ∧ x < n) : rd_L1 nxt x = nxt.getD x.toNat [] ∧ (nxt.getD x.toNat []).length = 3 ∧ ∀ j, j < 3 → 0 ≤ nxD nxt x j ∧ nxD nxt x j < n := by
  have hlt : x.toNat < nxt.length := by omega
  have e : nxt.getD x.toNat [] = nxt[x.toNat] := by rw [List.getD_eq_getElem?_getD, List.getElem?_eq_getElem hlt]; rfl
  have hr := hrow _ (List.getElem_mem hlt)
  refine ⟨?_, by rw [e]; exact hr.1, fun j hj => ?_⟩
  · obtain ⟨m, rfl⟩ := Int.eq_ofNat_of_zero_le hx.1
    rw [rows_get nxt m (by simpa using hlt), e]
    rfl
  · unfold nxD
    rw [e, rd_get _ j (by omega)]
    exact hr.2 _ (List.getElem_mem _)
theorem l7_l1 (x : Int) (wd : ByteArray) (i : Nat) (hx : 0 ≤ x ∧ x < n) (res : ByteArray × Bool) : ∀ (d j : Nat) (p : St Int), j + d = 3 → Bf.Fit (fun x => 0 ≤ x ∧ x < (n : Int)) n p → p.1[i]? = some x → p.2[i]? = some wd →
    Ev (fun k => spec_l7First.l0 k goal (ex (nxD nxt) x wd d j p).1 (ex (nxD nxt) x wd d j p).2 ((i + 1 : Nat) : Int) acc nxt) res → Ev (fun k => spec_l7First.l1 k goal p.1 p.2 i j acc nxt) res := by
  intro d
  induction d with
  | zero =>
    intro j p hj hf h1 h2 he
    have hi : i < p.1.length := (List.getElem?_eq_some_iff.mp h1).1
    have hle := hf.le
    refine next ?_
    simp only [spec_l7First.l1, if_neg (show ¬ (j : Int) < 3 by omega), up1 (show i < 9223372036854775807 by omega)]
    exact he
  | succ d ih =>
    intro j p hj hf h1 h2 he
    obtain ⟨hi, e1⟩ := List.getElem?_eq_some_iff.mp h1
    obtain ⟨hi2, e2⟩ := List.getElem?_eq_some_iff.mp h2
    have hle := hf.le
    have hlen := hf.len
    obtain ⟨r1, r2, r3⟩ := nx_row goal nxt n hn hl hg hrow hx
    have hz : wd.size ≤ i := by
      have := hf.size i
      rw [List.getD_eq_getElem?_getD, h2] at this
      exact this
    have hy := r3 j (by omega)
    have epc : (⟨#[97, 98, 99]⟩ : ByteArray).extract ((j : Int)).toNat ((wrap64 ((j : Int) + 1)) : Int).toNat = pc j := by rw [up1 (by omega), Int.toNat_natCast, Int.toNat_natCast]; rfl
    refine next ?_
    simp only [spec_l7First.l1, if_pos (show (j : Int) < 3 by omega), if_pos (show (0 : Int) ≤ i by omega), if_pos (show (i : Int) < (p.1.length : Int) by omega), rd_get p.1 i hi, e1, if_pos hx.1, if_pos (show x < (nxt.length : Int) by omega), if_pos (show (0 : Int) ≤ j by omega), r1, r2, if_pos (show (j : Int) < ((3 : Nat) : Int) by omega)]
    refine Ev.bind (spec_find p.1 _ (by omega)) ?_
    have e3 : rd (nxt.getD x.toNat []) (j : Int) = nxD nxt x j := rfl
    rw [ex] at he
    simp only [e3]
    by_cases hm : nxD nxt x j ∈ p.1
    · rw [show put (nxD nxt x j) (wd ++ pc j) p = p by unfold put; rw [if_pos hm]] at he
      simp only [if_pos hm, if_neg (show ¬ ((List.idxOf (nxD nxt x j) p.1 : Nat) : Int) < 0 by omega)]
      have := ih (j + 1) p (by omega) hf h1 h2 he
      rw [← up1 (by omega)] at this
      exact this
    · have ep : put (nxD nxt x j) (wd ++ pc j) p = (p.1 ++ [nxD nxt x j], p.2 ++ [wd ++ pc j]) := by unfold put; rw [if_neg hm]
      have hf2 := fit_put hf hy (wd := wd ++ pc j) (by rw [ByteArray.size_append, size_pc j (by omega)]; omega)
      rw [ep] at he hf2
      simp only [if_neg hm, if_pos (show (-1 : Int) < 0 by omega), if_pos (show p.1.length < 17592186044416 by omega), if_pos (show (i : Int) < (p.2.length : Int) by omega), epc, if_pos (show (j : Int) ≤ wrap64 ((j : Int) + 1) by rw [up1 (by omega)]; omega), if_pos (show wrap64 ((j : Int) + 1) ≤ 3 by rw [up1 (by omega)]; omega), rdOf_get _ p.2 i hi2, e2, size_pc j (show j < 3 by omega), if_pos (show wd.size + 1 ≤ 9223372036854775807 by omega), if_pos (show p.2.length < 8796093022208 by omega)]
      have := ih (j + 1) (p.1 ++ [nxD nxt x j], p.2 ++ [wd ++ pc j]) (by omega) hf2 (by rw [List.getElem?_append_left hi]; exact h1) (by rw [List.getElem?_append_left hi2]; exact h2) he
      rw [← up1 (by omega)] at this
      exact this
theorem l7_l0 : ∀ (d : Nat) (p : St Int) (i : Nat), Bf.Fit (fun x => 0 ≤ x ∧ x < (n : Int)) n p → i ≤ p.1.length → n + 2 ≤ d + i → Ev (fun k => spec_l7First.l0 k goal p.1 p.2 i acc nxt) (bfs (fun x => rdOf false goal x) (nxD nxt) d p i) := by
  intro d
  induction d with
  | zero => intro p i hf hi hd; have := hf.le; omega
  | succ d ih =>
    intro p i hf hi hd
    have hle := hf.le
    have hlen := hf.len
    refine next ?_
    rw [bfs]
    by_cases h : i < p.1.length
    · rw [dif_pos h]
      have hx := hf.all _ (List.getElem_mem h)
      have h2 : p.2[i]? = some p.2[i] := List.getElem?_eq_getElem (by omega)
      have hgd : p.2.getD i ByteArray.empty = p.2[i] := by rw [List.getD_eq_getElem?_getD, h2]; rfl
      simp only [spec_l7First.l0, if_pos (show (i : Int) < (p.1.length : Int) by omega), if_pos (show (0 : Int) ≤ i by omega), rd_get p.1 i h, if_pos hx.1, if_pos (show p.1[i] < (goal.length : Int) by omega)]
      by_cases hgo : rdOf false goal p.1[i] = true
      · simp only [hgo, if_true, if_pos (show (i : Int) < (p.2.length : Int) by omega), rdOf_get _ p.2 i (by omega), hgd]
        exact Ev.now _
      · simp only [hgo, if_false, hgd, Bool.false_eq_true]
        have hz : p.2[i].size ≤ i := by
          have := hf.size i
          rw [hgd] at this
          exact this
        obtain ⟨_, _, r3⟩ := nx_row goal nxt n hn hl hg hrow hx
        obtain ⟨f1, f2⟩ := fit_ex (nx := nxD nxt) hx (fun x j hx hj => (nx_row goal nxt n hn hl hg hrow hx).2.2 j hj) (wd := p.2[i]) 3 0 p (by omega) hf (by omega)
        exact l7_l1 acc goal nxt n hn hl hg hrow p.1[i] p.2[i] i hx _ 3 0 p (by omega) hf (List.getElem?_eq_getElem h) h2 (ih _ (i + 1) f1 (by omega) (by omega))
    · rw [dif_neg h]
      simp only [spec_l7First.l0, if_neg (show ¬ (i : Int) < (p.1.length : Int) by omega)]
      exact Ev.now _
theorem spec_first (h1 : 1 ≤ n) : Ev (fun k => spec_l7First.f k acc nxt goal) (bfs (fun x => rdOf false goal x) (nxD nxt) (n + 2) ([0], [(⟨#[]⟩ : ByteArray)]) 0) := by
  simp only [spec_l7First.f]
  exact l7_l0 acc goal nxt n hn hl hg hrow (n + 2) ([0], [(⟨#[]⟩ : ByteArray)]) 0 (fit0 ⟨by omega, by omega⟩ (fun s hs ha => card_range n s hs ha)) (by simp) (by omega)
end
theorem bfs_more {α : Type} [DecidableEq α] {dom : α → Prop} {N : Nat} {good : α → Bool} {nx : α → Nat → α} (hd : ∀ x j, dom x → j < 3 → dom (nx x j)) : ∀ (d d' : Nat) (p : St α) (i : Nat), Bf.Fit dom N p → i ≤ p.1.length → N + 1 ≤ d + i → N + 1 ≤ d' + i → bfs good nx d p i = bfs good nx d' p i := by
  intro d
  induction d with
  | zero => intro d' p i hf hi h1 h2; have := hf.le; omega
  | succ d ih =>
    intro d' p i hf hi h1 h2
    have hle := hf.le
    cases d' with
    | zero => omega
    | succ d' =>
      rw [bfs, bfs]
      by_cases h : i < p.1.length
      · rw [dif_pos h, dif_pos h]
        split
        · rfl
        · have hz : (p.2.getD i ByteArray.empty).size ≤ i := hf.size i
          obtain ⟨f1, f2⟩ := fit_ex (nx := nx) (hf.all _ (List.getElem_mem h)) hd (wd := p.2.getD i ByteArray.empty) 3 0 p (by omega) hf (by omega)
          exact ih d' _ (i + 1) f1 (by omega) (by omega) (by omega)
      · rw [dif_neg h, dif_neg h]
end Go.Proofs.Ytogamkblkoobkaa.Pl
end
section
namespace Go.Proofs.Ytogamkblkoobkaa.Pl
open Go.RowKit Go.Proofs.Ytogamkblkoobkaa Go.Proofs.Ytogamkblkoobkaa.P Go.Proofs.Ytogamkblkoobkaa.Wk Go.Proofs.Ytogamkblkoobkaa.Bf Go.Proofs.YtogamkblkoobkaaW.PrintWords Go.Proofs.YtogamkblkoobkaaW.PrintLast Go.Proofs.YtogamkblkoobkaaW.PrintMore
set_option linter.unusedVariables false
set_option linter.unusedSimpArgs false
set_option linter.unusedSectionVars false
def prs {α : Type} (n m : Nat) (f : Nat → Nat → α) : List α := (List.range m).map fun i => f (i / n) (i % n)
theorem div_of {n p q : Nat} (h : q < n) : (p * n + q) / n = p := by rw [Nat.mul_comm, Nat.mul_add_div (by omega), Nat.div_eq_of_lt h, Nat.add_zero]
theorem mod_of {n p q : Nat} (h : q < n) : (p * n + q) % n = q := by rw [Nat.mul_comm, Nat.mul_add_mod, Nat.mod_eq_of_lt h]
theorem prs_snoc {α : Type} {n p q : Nat} (h : q < n) (f : Nat → Nat → α) : prs n (p * n + q + 1) f = prs n (p * n + q) f ++ [f p q] := by
  unfold prs
  rw [List.range_succ, List.map_append, List.map_singleton, div_of h, mod_of h]
theorem prs_len {α : Type} (n m : Nat) (f : Nat → Nat → α) : (prs n m f).length = m := by simp [prs]
theorem prs_get {α : Type} {n m p q : Nat} (h : q < n) (hm : p * n + q < m) (f : Nat → Nat → α) (hl : p * n + q < (prs n m f).length) : (prs n m f)[p * n + q] = f p q := by
  simp only [prs, List.getElem_map, List.getElem_range, div_of h, mod_of h]
theorem bfs_map {α β : Type} [DecidableEq α] [DecidableEq β] {dom : α → Prop} {e : α → β} (hinj : ∀ x y, dom x → dom y → e x = e y → x = y) {good : α → Bool} {good' : β → Bool} {nx : α → Nat → α} {nx' : β → Nat → β} (hd : ∀ x j, dom x → j < 3 → dom (nx x j))
    (hg : ∀ x, dom x → good' (e x) = good x) (hn : ∀ x j, dom x → j < 3 → nx' (e x) j = e (nx x j)) : ∀ (d : Nat) (p : St α) (i : Nat), (∀ x ∈ p.1, dom x) → bfs good' nx' d (p.1.map e, p.2) i = bfs good nx d p i := by
  have hput : ∀ (y : α) (wd : ByteArray) (p : St α), dom y → (∀ x ∈ p.1, dom x) → put (e y) wd (p.1.map e, p.2) = ((put y wd p).1.map e, (put y wd p).2) ∧ ∀ z ∈ (put y wd p).1, dom z := by
    intro y wd p hy hp
    unfold put
    by_cases h : y ∈ p.1
    · rw [if_pos h, if_pos (List.mem_map_of_mem h)]
      exact ⟨rfl, hp⟩
    · rw [if_neg h, if_neg (fun hm => by
        obtain ⟨z, hz, he⟩ := List.mem_map.mp hm
        exact h (hinj z y (hp z hz) hy he ▸ hz))]
      refine ⟨by simp, fun x hx => ?_⟩
      rcases List.mem_append.mp hx with q | q
      · exact hp x q
      · rw [List.mem_singleton] at q
        subst q
        exact hy
  have hex : ∀ (x : α) (wd : ByteArray), dom x → ∀ (d j : Nat) (p : St α), j + d ≤ 3 → (∀ x ∈ p.1, dom x) → ex nx' (e x) wd d j (p.1.map e, p.2) = ((ex nx x wd d j p).1.map e, (ex nx x wd d j p).2) ∧ ∀ z ∈ (ex nx x wd d j p).1, dom z := by
    intro x wd hx d
    induction d with
    | zero => intro j p _ hp; exact ⟨rfl, hp⟩
    | succ d ih =>
      intro j p hj hp
      rw [ex, ex, hn x j hx (by omega)]
      obtain ⟨h1, h2⟩ := hput (nx x j) (wd ++ pc j) p (hd x j hx (by omega)) hp
      rw [h1]
      exact ih (j + 1) _ (by omega) h2
  intro d
  induction d with
  | zero => intro p i _; rfl
  | succ d ih =>
    intro p i hp
    rw [bfs, bfs]
    by_cases h : i < p.1.length
    · have h' : i < (p.1.map e, p.2).1.length := by simpa using h
      rw [dif_pos h, dif_pos h']
      have hdx := hp _ (List.getElem_mem h)
      have e1 : (p.1.map e, p.2).1[i] = e p.1[i] := List.getElem_map _
      rw [e1, hg _ hdx]
      obtain ⟨h1, h2⟩ := hex p.1[i] (p.2.getD i ByteArray.empty) hdx 3 0 p (by omega) hp
      rw [h1, ih _ (i + 1) h2]
    · have h' : ¬ i < (p.1.map e, p.2).1.length := by simpa using h
      rw [dif_neg h, dif_neg h']
theorem row_of {a0 : List Bool} {a1 : List (List Int)} (ha : 1 ≤ a0.length ∧ a0.length ≤ 40 ∧ a1.length = a0.length ∧ ∀ r ∈ a1, r.length = 3 ∧ ∀ q ∈ r, 0 ≤ q ∧ q < (a0.length : Int)) {p : Nat} (hp : p < a0.length) :
    (rd_L1 a1 (p : Int)).length = 3 ∧ ∀ j : Nat, j < 3 → rd (rd_L1 a1 (p : Int)) (j : Int) = nxD a1 p j ∧ 0 ≤ nxD a1 p j ∧ nxD a1 p j < (a0.length : Int) := by
  obtain ⟨h1, h2, h3, h4⟩ := ha
  obtain ⟨e, e3, e4⟩ := nx_row a0 a1 a0.length (by omega) h3 rfl h4 (x := (p : Int)) ⟨by omega, by omega⟩
  refine ⟨by rw [e]; exact e3, fun j hj => ⟨?_, e4 j hj⟩⟩
  rw [e]
  rfl
section
variable (a0 b0 : List Bool) (a1 b1 : List (List Int)) (both : Bool)
def accF (p q : Nat) : Bool := rdOf false a0 p && !rdOf false b0 q || both && rdOf false b0 q && !rdOf false a0 p
def rowF (p q : Nat) : List Int := [nxD a1 p 0 * b0.length + nxD b1 q 0, nxD a1 p 1 * b0.length + nxD b1 q 1, nxD a1 p 2 * b0.length + nxD b1 q 2]
variable (ha : 1 ≤ a0.length ∧ a0.length ≤ 40 ∧ a1.length = a0.length ∧ ∀ r ∈ a1, r.length = 3 ∧ ∀ q ∈ r, 0 ≤ q ∧ q < (a0.length : Int)) (hb : 1 ≤ b0.length ∧ b0.length ≤ 40 ∧ b1.length = b0.length ∧ ∀ r ∈ b1, r.length = 3 ∧ ∀ q ∈ r, 0 ≤ q ∧ q < (b0.length : Int))
include ha hb
theorem pr_l2 (p q : Nat) (hp : p < a0.length) (hq : q < b0.length) (A : List Bool) (M : List (List Int)) (hA : A.length ≤ 2000) (hM : M.length ≤ 2000) (res : List Bool × List (List Int))
    (hk : Ev (fun k => spec_l7Pairs.l1 k both (b0.length : Int) p ((q + 1 : Nat) : Int) a0 a1 b0 b1 (A ++ [accF a0 b0 both p q]) (M ++ [rowF b0 a1 b1 p q])) res) :
    ∀ (d j : Nat), j + d = 3 → Ev (fun k => spec_l7Pairs.l2 k both (b0.length : Int) p q ((rowF b0 a1 b1 p q).take j) j a0 a1 b0 b1 A M) res := by
  intro d
  obtain ⟨ra, rb⟩ := row_of ha hp
  obtain ⟨sa, sb⟩ := row_of hb hq
  have hb40 := hb.2.1
  have ha3 := ha.2.2.1
  have hb3 := hb.2.2.1
  induction d with
  | zero =>
    intro j hj
    obtain rfl : j = 3 := by omega
    refine next ?_
    have et : (rowF b0 a1 b1 p q).take 3 = rowF b0 a1 b1 p q := rfl
    have hu : Ev (fun k => spec_l7Pairs.l1 k both (b0.length : Int) p (wrap64 ((q : Int) + 1)) a0 a1 b0 b1 (A ++ [accF a0 b0 both p q]) (M ++ [rowF b0 a1 b1 p q])) res := by rw [up1 (by omega)]; exact hk
    unfold accF at hu
    simp only [spec_l7Pairs.l2, et, if_neg (show ¬ ((3 : Nat) : Int) < 3 by omega), if_pos (show (0 : Int) ≤ (p : Int) by omega), if_pos (show (p : Int) < (a0.length : Int) by omega), if_pos (show (0 : Int) ≤ (q : Int) by omega), if_pos (show (q : Int) < (b0.length : Int) by omega), if_pos (show A.length < 140737488355328 by omega), if_pos (show M.length < 5864062014805 by omega)]
    cases hx : rdOf false a0 (p : Int) <;> cases hy : rdOf false b0 (q : Int) <;> cases both <;> simpa [hx, hy] using hu
  | succ d ih =>
    intro j hj
    have ij := ih (j + 1) (by omega)
    obtain ⟨r1, r2, r3⟩ := rb j (by omega)
    obtain ⟨s1, s2, s3⟩ := sb j (by omega)
    have hm : nxD a1 p j * b0.length ≤ 40 * 40 := Int.mul_le_mul (by have := ha.2.1; omega) (by omega) (by omega) (by omega)
    have hm0 : 0 ≤ nxD a1 p j * b0.length := Int.mul_nonneg r2 (by omega)
    have hl : ((rowF b0 a1 b1 p q).take j).length ≤ 3 := by rw [List.length_take]; show min j 3 ≤ 3; omega
    have hstep : (rowF b0 a1 b1 p q).take j ++ [nxD a1 p j * b0.length + nxD b1 q j] = (rowF b0 a1 b1 p q).take (j + 1) := by
      rcases (by omega : j = 0 ∨ j = 1 ∨ j = 2) with rfl | rfl | rfl <;> rfl
    refine next ?_
    simp only [spec_l7Pairs.l2, if_pos (show (j : Int) < 3 by omega), if_pos (show (0 : Int) ≤ (p : Int) by omega), if_pos (show (p : Int) < (a1.length : Int) by omega), if_pos (show (0 : Int) ≤ (j : Int) by omega), if_pos (show (j : Int) < ((rd_L1 a1 (p : Int)).length : Int) by omega), if_pos (show (0 : Int) ≤ (q : Int) by omega), if_pos (show (q : Int) < (b1.length : Int) by omega), if_pos (show (j : Int) < ((rd_L1 b1 (q : Int)).length : Int) by omega), if_pos (show ((rowF b0 a1 b1 p q).take j).length < 17592186044416 by omega), r1, s1, w64 (show -9223372036854775808 ≤ nxD a1 p j * (b0.length : Int) by omega) (by omega), w64 (show -9223372036854775808 ≤ nxD a1 p j * (b0.length : Int) + nxD b1 q j by omega) (by omega), hstep, up1 (show j < 9223372036854775807 by omega)]
    exact ij
theorem pr_l1 (p : Nat) (hp : p < a0.length) (res : List Bool × List (List Int)) (hk : Ev (fun k => spec_l7Pairs.l0 k both (b0.length : Int) ((p + 1 : Nat) : Int) a0 a1 b0 b1 (prs b0.length ((p + 1) * b0.length) (accF a0 b0 both)) (prs b0.length ((p + 1) * b0.length) (rowF b0 a1 b1))) res) :
    ∀ (d q : Nat), q + d = b0.length → Ev (fun k => spec_l7Pairs.l1 k both (b0.length : Int) p q a0 a1 b0 b1 (prs b0.length (p * b0.length + q) (accF a0 b0 both)) (prs b0.length (p * b0.length + q) (rowF b0 a1 b1))) res := by
  intro d
  have hb40 := hb.2.1
  have ha40 := ha.2.1
  induction d with
  | zero =>
    intro q hq
    obtain rfl : q = b0.length := by omega
    refine next ?_
    simp only [spec_l7Pairs.l1, if_neg (show ¬ (b0.length : Int) < (b0.length : Int) by omega), up1 (show p < 9223372036854775807 by omega)]
    rw [Nat.succ_mul] at hk
    exact hk
  | succ d ih =>
    intro q hq
    have iq := ih (q + 1) (by omega)
    have hlt : p * b0.length + q ≤ 2000 := by
      have : p * b0.length ≤ 40 * 40 := Nat.mul_le_mul (by omega) (by omega)
      omega
    refine next ?_
    simp only [spec_l7Pairs.l1, if_pos (show (q : Int) < (b0.length : Int) by omega)]
    rw [← Nat.add_assoc, prs_snoc (by omega), prs_snoc (by omega)] at iq
    exact pr_l2 a0 b0 a1 b1 both ha hb p q hp (by omega) _ _ (by rw [prs_len]; exact hlt) (by rw [prs_len]; exact hlt) res iq 3 0 (by omega)
theorem pr_l0 : ∀ (d p : Nat), p + d = a0.length → Ev (fun k => spec_l7Pairs.l0 k both (b0.length : Int) p a0 a1 b0 b1 (prs b0.length (p * b0.length) (accF a0 b0 both)) (prs b0.length (p * b0.length) (rowF b0 a1 b1))) (prs b0.length (a0.length * b0.length) (accF a0 b0 both), prs b0.length (a0.length * b0.length) (rowF b0 a1 b1)) := by
  intro d
  have ha40 := ha.2.1
  induction d with
  | zero =>
    intro p hp
    obtain rfl : p = a0.length := by omega
    refine next ?_
    simp only [spec_l7Pairs.l0, if_neg (show ¬ (a0.length : Int) < (a0.length : Int) by omega)]
    exact Ev.now _
  | succ d ih =>
    intro p hp
    refine next ?_
    simp only [spec_l7Pairs.l0, if_pos (show (p : Int) < (a0.length : Int) by omega)]
    exact pr_l1 a0 b0 a1 b1 both ha hb p (by omega) _ (ih (p + 1) (by omega)) b0.length 0 (by omega)
theorem spec_pairs : Ev (fun k => spec_l7Pairs.f k a0 a1 b0 b1 both) (prs b0.length (a0.length * b0.length) (accF a0 b0 both), prs b0.length (a0.length * b0.length) (rowF b0 a1 b1)) := by
  simp only [spec_l7Pairs.f]
  have := pr_l0 a0 b0 a1 b1 both ha hb a0.length 0 (by omega)
  simp only [Nat.zero_mul] at this
  exact this
theorem pairs_first (good : Bool → Bool → Bool) (hg : ∀ p q, (p && !q || both && q && !p) = good p q) :
    Ev (fun k => spec_l7First.f k (prs b0.length (a0.length * b0.length) (accF a0 b0 both)) (prs b0.length (a0.length * b0.length) (rowF b0 a1 b1)) (prs b0.length (a0.length * b0.length) (accF a0 b0 both))) (bfs (gdP good a0 b0) (nxP a1 b1) 1602 ([((0 : Int), (0 : Int))], [(⟨#[]⟩ : ByteArray)]) 0) := by
  have hn : a0.length * b0.length ≤ 1600 := Nat.mul_le_mul ha.2.1 hb.2.1
  have h1 : 1 ≤ a0.length * b0.length := Nat.mul_le_mul ha.1 hb.1
  generalize hN : a0.length * b0.length = n at hn h1 ⊢
  have hlt : ∀ p q : Nat, p < a0.length → q < b0.length → p * b0.length + q < n := fun p q hp hq => by
    have : (p + 1) * b0.length ≤ a0.length * b0.length := Nat.mul_le_mul_right _ hp
    rw [Nat.succ_mul] at this
    omega
  have hrow : ∀ r ∈ prs b0.length n (rowF b0 a1 b1), r.length = 3 ∧ ∀ q ∈ r, 0 ≤ q ∧ q < (n : Int) := by
    intro r hr
    obtain ⟨i, hi, rfl⟩ := List.mem_map.mp hr
    have hin := List.mem_range.mp hi
    have hip : i / b0.length < a0.length := by rw [Nat.div_lt_iff_lt_mul (by omega)]; omega
    have hiq : i % b0.length < b0.length := Nat.mod_lt _ (by omega)
    refine ⟨rfl, fun q hq => ?_⟩
    have hgen : ∀ j, j < 3 → 0 ≤ nxD a1 (i / b0.length : Nat) j * b0.length + nxD b1 (i % b0.length : Nat) j ∧ nxD a1 (i / b0.length : Nat) j * b0.length + nxD b1 (i % b0.length : Nat) j < (n : Int) := fun j hj => by
      obtain ⟨_, u1, u2⟩ := (row_of ha hip).2 j hj
      obtain ⟨_, v1, v2⟩ := (row_of hb hiq).2 j hj
      obtain ⟨x, hx⟩ := Int.eq_ofNat_of_zero_le u1
      obtain ⟨y, hy⟩ := Int.eq_ofNat_of_zero_le v1
      have := hlt x y (by omega) (by omega)
      rw [hx, hy]
      have e : ((x : Int) * (b0.length : Int) + (y : Int)) = ((x * b0.length + y : Nat) : Int) := by simp
      rw [e]
      omega
    simp only [rowF, List.mem_cons, List.not_mem_nil, or_false] at hq
    rcases hq with rfl | rfl | rfl
    · exact hgen 0 (by omega)
    · exact hgen 1 (by omega)
    · exact hgen 2 (by omega)
  have hdom : ∀ (x : Pr) (j : Nat), ((0 ≤ x.1 ∧ x.1 < (a0.length : Int)) ∧ 0 ≤ x.2 ∧ x.2 < (b0.length : Int)) → j < 3 → ((0 ≤ (nxP a1 b1 x j).1 ∧ (nxP a1 b1 x j).1 < (a0.length : Int)) ∧ 0 ≤ (nxP a1 b1 x j).2 ∧ (nxP a1 b1 x j).2 < (b0.length : Int)) := fun x j hx hj => by
    obtain ⟨p, hp⟩ := Int.eq_ofNat_of_zero_le hx.1.1
    obtain ⟨q, hq⟩ := Int.eq_ofNat_of_zero_le hx.2.1
    have hx2 := hx.1.2
    have hx4 := hx.2.2
    unfold nxP
    rw [hp, hq]
    obtain ⟨_, u1, u2⟩ := (row_of ha (p := p) (by omega)).2 j hj
    obtain ⟨_, v1, v2⟩ := (row_of hb (p := q) (by omega)).2 j hj
    exact ⟨⟨u1, u2⟩, v1, v2⟩
  have hget : ∀ p q : Nat, p < a0.length → q < b0.length → rdOf false (prs b0.length n (accF a0 b0 both)) ((p : Int) * (b0.length : Int) + (q : Int)) = accF a0 b0 both p q := fun p q hp hq => by
    have e : ((p : Int) * (b0.length : Int) + (q : Int)) = ((p * b0.length + q : Nat) : Int) := by simp
    rw [e, rdOf_get _ _ _ (by rw [prs_len]; exact hlt p q hp hq), prs_get hq (hlt p q hp hq)]
  have hnx : ∀ p q j : Nat, p < a0.length → q < b0.length → j < 3 → nxD (prs b0.length n (rowF b0 a1 b1)) ((p : Int) * (b0.length : Int) + (q : Int)) j = nxD a1 p j * b0.length + nxD b1 q j := fun p q j hp hq hj => by
    have e : ((p : Int) * (b0.length : Int) + (q : Int)) = ((p * b0.length + q : Nat) : Int) := by simp
    have hl : p * b0.length + q < (prs b0.length n (rowF b0 a1 b1)).length := by rw [prs_len]; exact hlt p q hp hq
    rw [e]
    unfold nxD
    rw [Int.toNat_natCast, List.getD_eq_getElem?_getD, List.getElem?_eq_getElem hl, Option.getD_some, prs_get hq (hlt p q hp hq)]
    match j, hj with
    | 0, _ => rfl
    | 1, _ => rfl
    | 2, _ => rfl
  have hb1' := hb.1
  have ha1' := ha.1
  have E := spec_first (prs b0.length n (accF a0 b0 both)) (prs b0.length n (accF a0 b0 both)) (prs b0.length n (rowF b0 a1 b1)) n (by omega) (by rw [prs_len]) (by rw [prs_len]) hrow h1
  refine ev_eq E ?_
  have M := bfs_map (dom := fun x : Pr => (0 ≤ x.1 ∧ x.1 < (a0.length : Int)) ∧ 0 ≤ x.2 ∧ x.2 < (b0.length : Int)) (e := fun x : Pr => x.1 * (b0.length : Int) + x.2) (good := gdP good a0 b0) (good' := fun x => rdOf false (prs b0.length n (accF a0 b0 both)) x) (nx := nxP a1 b1) (nx' := nxD (prs b0.length n (rowF b0 a1 b1)))
    (fun x y hx hy he => by
      obtain ⟨x1, x2⟩ := x
      obtain ⟨y1, y2⟩ := y
      obtain ⟨⟨hx1, hx2⟩, hx3, hx4⟩ := hx
      obtain ⟨⟨hy1, hy2⟩, hy3, hy4⟩ := hy
      dsimp only at *
      have d1 : (x1 * (b0.length : Int) + x2) / (b0.length : Int) = x1 := by rw [Int.mul_comm, Int.mul_add_ediv_left _ _ (by omega), Int.ediv_eq_zero_of_lt hx3 hx4, Int.add_zero]
      have d2 : (y1 * (b0.length : Int) + y2) / (b0.length : Int) = y1 := by rw [Int.mul_comm, Int.mul_add_ediv_left _ _ (by omega), Int.ediv_eq_zero_of_lt hy3 hy4, Int.add_zero]
      rw [he, d2] at d1
      subst d1
      have : x2 = y2 := by omega
      subst this
      rfl) hdom
    (fun x hx => by
      obtain ⟨p, hp⟩ := Int.eq_ofNat_of_zero_le hx.1.1
      obtain ⟨q, hq⟩ := Int.eq_ofNat_of_zero_le hx.2.1
      have h2 := hx.1.2
      have h4 := hx.2.2
      show rdOf false _ (x.1 * _ + x.2) = good _ _
      rw [hp, hq, hget p q (by omega) (by omega), ← hg]
      rfl)
    (fun x j hx hj => by
      obtain ⟨p, hp⟩ := Int.eq_ofNat_of_zero_le hx.1.1
      obtain ⟨q, hq⟩ := Int.eq_ofNat_of_zero_le hx.2.1
      have h2 := hx.1.2
      have h4 := hx.2.2
      show nxD _ (x.1 * _ + x.2) j = _
      rw [hp, hq, hnx p q j (by omega) (by omega) hj]
      unfold nxP
      rw [hp, hq])
    (n + 2) ([((0 : Int), (0 : Int))], [(⟨#[]⟩ : ByteArray)]) 0 (fun x hx => by
      rw [List.mem_singleton] at hx
      subst hx
      exact ⟨⟨by show (0 : Int) ≤ 0; omega, by show (0 : Int) < _; omega⟩, by show (0 : Int) ≤ 0; omega, by show (0 : Int) < _; omega⟩)
  simp only [List.map_singleton, Int.zero_mul, Int.add_zero] at M
  rw [M]
  exact bfs_more (dom := fun x : Pr => (0 ≤ x.1 ∧ x.1 < (a0.length : Int)) ∧ 0 ≤ x.2 ∧ x.2 < (b0.length : Int)) (N := n) hdom (n + 2) 1602 _ 0 (fit0 ⟨⟨by show (0 : Int) ≤ 0; omega, by show (0 : Int) < _; omega⟩, by show (0 : Int) ≤ 0; omega, by show (0 : Int) < _; omega⟩ (fun s hs ha' => by rw [← hN]; exact card_pairs a0.length b0.length s hs ha')) (by simp) (by omega) (by omega)
end
end Go.Proofs.Ytogamkblkoobkaa.Pl
end
section
namespace Go.Proofs.Ytogamkblkoobkaa.Pl
open Go.RowKit Go.Proofs.Ytogamkblkoobkaa Go.Proofs.Ytogamkblkoobkaa.P Go.Proofs.YtogamkblkoobkaaW.PrintWords Go.Proofs.YtogamkblkoobkaaW.PrintLast Go.Proofs.YtogamkblkoobkaaW.PrintMore Wk Bf
set_option linter.unusedVariables false
set_option linter.unusedSimpArgs false
theorem spec_differ (a : List Bool) (n : List (List Int)) (b : List Bool) (m : List (List Int)) (s1 : a.length ≤ 1048576) (s2 : n.length ≤ 1048576) (t1 : b.length ≤ 1048576) (t2 : m.length ≤ 1048576) : Ev (fun k => spec_DifferWord.f k a n b m) (fpR (fun p q => p != q) a n b m) := by
  unfold fpR
  simp only [spec_DifferWord.f]
  refine Ev.bind (spec_valid a n s1 s2) ?_
  by_cases hv : validD a n = true
  · simp only [hv, if_true, true_and]
    refine Ev.bind (spec_valid b m t1 t2) ?_
    refine next ?_
    by_cases hw : validD b m = true
    · simp only [hw, if_true, spec_DifferWord.j0, Bool.not_true, Bool.false_eq_true, if_false]
      refine Ev.bind (spec_pairs a b n m true (validD_facts hv) (validD_facts hw)) ?_
      refine Ev.bind (pairs_first a b n m true (validD_facts hv) (validD_facts hw) (fun p q => p != q) (by decide)) ?_
      exact Ev.now _
    · simp only [Bool.not_eq_true] at hw
      simp only [hw, if_false, spec_DifferWord.j0, Bool.not_false, if_true, Bool.false_eq_true]
      exact Ev.now _
  · simp only [Bool.not_eq_true] at hv
    simp only [hv, if_false, false_and, Bool.false_eq_true]
    refine next ?_
    simp only [spec_DifferWord.j0, if_true]
    exact Ev.now _
end Go.Proofs.Ytogamkblkoobkaa.Pl
end
section
namespace Go.Proofs.Ytogamkblkoobkaa.Pl
open Go.RowKit Go.Proofs.Ytogamkblkoobkaa Go.Proofs.Ytogamkblkoobkaa.P Go.Proofs.YtogamkblkoobkaaW.PrintWords Go.Proofs.YtogamkblkoobkaaW.PrintLast Go.Proofs.YtogamkblkoobkaaW.PrintMore Wk Bf Can
set_option linter.unusedVariables false
set_option linter.unusedSimpArgs false
theorem draw_differ (l0 : List Int) (h1 : l0.length ≤ 140737488351232) : ∃ a n b m, Ev (fun k => spec_DrawDifferWord.f k l0) (a, n, b, m) ∧ validD a n = true ∧ a.length ≤ 4 ∧ b.length ≤ 6 ∧ m.length ≤ 6 ∧ ∀ r ∈ m, r.length ≤ 4 := by
  obtain ⟨r, hr⟩ := new l0 h1
  obtain ⟨a, n, i1, g1, hev, a1, a2, a3, a4, c1⟩ := draw l0 h1 0 r (cur0 l0) 4 (by omega) (by omega)
  have hv : validD a n = true := valid_of a1 (by omega) ⟨a3, a4⟩
  obtain ⟨x, i2, g2, e, c2⟩ := once l0 h1 i1 g1 c1 3 (by omega) (by omega)
  by_cases hx : x = true
  · obtain ⟨m1, m2, m3⟩ := minD_len (fits_valid hv) (st := 0) (by omega)
    refine ⟨a, n, (minOf a n).1, (minOf a n).2, ?_, hv, a2, ?_, ?_, ?_⟩
    · simp only [spec_DrawDifferWord.f]
      refine Ev.bind hr (Ev.bind hev ?_)
      simp only [e, Option.bind_some, if_pos hx]
      have := spec_minimize a n (by omega) (by omega)
      generalize minOf a n = mm at this ⊢
      exact Ev.bind this (Ev.now _)
    all_goals (unfold minOf; rw [if_pos hv])
    · omega
    · omega
    · exact fun r hr => by have := m3 r hr; omega
  · obtain ⟨b, m, i3, g3, hev2, b1, b2, b3, c3⟩ := bent l0 h1 i2 g2 c2
    refine ⟨a, n, b, m, ?_, hv, a2, b1, b2, b3⟩
    simp only [spec_DrawDifferWord.f]
    refine Ev.bind hr (Ev.bind hev ?_)
    simp only [e, Option.bind_some, if_neg hx]
    exact Ev.bind hev2 (Ev.now _)
theorem pureFnMinimal : laws_FnMinimal.Pure := by
  intro l0 h0 h1 h2
  refine Ev.rounds ?_
  simp only [laws_FnMinimal.f, laws_big.f, Option.bind_some]
  by_cases hbig : (l0.length : Int) > 1048576
  · simp only [decide_eq_true hbig, if_true]
    exact Ev.now _
  · simp only [decide_eq_false hbig, Bool.false_eq_true, if_false]
    obtain ⟨a, n, b, m, hev, hv, a2, b1, b2, b3⟩ := draw_differ l0 (by omega)
    refine Ev.bind hev ?_
    obtain ⟨v1, v2, v3, v4⟩ := validD_facts hv
    obtain ⟨x1, x2, x3⟩ := minOf_len a n
    obtain ⟨y1, y2, y3⟩ := minOf_len b m
    have hxx := minOf_min a n
    simp only [impl_minimize, Option.bind_some, impl_DifferWord.f]
    refine Ev.bind (spec_differ a n b m (by omega) (by omega) (by omega) (by omega)) ?_
    simp only [bne_self_eq_false, Bool.false_eq_true, if_false, if_true]
    refine Ev.bind (spec_minimize a n (by omega) (by omega)) ?_
    refine Ev.bind (spec_equal _ _ _ _ (by omega) (by omega) (fun x hx => by have := x3 x hx; omega)) ?_
    simp only [decide_true, Bool.and_self, if_true, impl_minimize, Option.bind_some, hxx]
    refine Ev.bind (spec_equal _ _ _ _ (by omega) (by omega) (fun x hx => by have := x3 x hx; omega)) ?_
    simp only [decide_true, Bool.and_self, Bool.not_true]
    refine next ?_
    simp only [laws_FnMinimal.j0, Bool.false_eq_true, if_false]
    cases hd : fpR (fun p q => p != q) a n b m with
    | mk s d =>
      cases d with
      | true =>
        simp only [if_true]
        have hw : validD b m = true := by
          unfold fpR at hd
          by_cases hw : validD a n = true ∧ validD b m = true
          · exact hw.2
          · rw [if_neg hw] at hd
            cases hd
        have hN : a.length * b.length ≤ 4 * 6 := Nat.mul_le_mul a2 b1
        obtain ⟨s1, s2⟩ := differ_some hv hw (by omega) hd
        refine Ev.bind (impl_acc a n (by omega) s (by omega)) (Ev.bind (impl_acc b m (by omega) s (by omega)) ?_)
        exact ev_some s2
      | false =>
        simp only [Bool.false_eq_true, if_false]
        refine Ev.bind (spec_valid a n (by omega) (by omega)) ?_
        simp only [hv, if_true]
        refine Ev.bind (spec_valid b m (by omega) (by omega)) ?_
        by_cases hw : validD b m = true
        · simp only [hw, if_true, impl_EqualDfa.f, Option.bind_some]
          have hl : lang a n 0 = lang b m 0 := funext fun w => by
            have := differ_none hv hw hd w
            simpa using this
          have he : minOf a n = minOf b m := by
            unfold minOf
            rw [if_pos hv, if_pos hw]
            exact min_eq hv hw hl
          exact ev_some (by rw [he]; simp)
        · simp only [if_neg hw]
          exact Ev.now _
end Go.Proofs.Ytogamkblkoobkaa.Pl
end
section
namespace Go.Proofs.Ytogamkblkoobkaa.Pure
open Go.Proofs.Ytogamkblkoobkaa.P
theorem FnMinimal : laws_FnMinimal.Pure := Pl.pureFnMinimal
end Go.Proofs.Ytogamkblkoobkaa.Pure
end
section
namespace Go.Proofs.YtogamkblkoobkaaW.PrintWords
open Go.ChangeShapes Go.WideShapes
theorem sized_ints {H : Type} {enc : TypeId × Value → H} {P : Program} {W : World} {base : Nat} {spare : Nat → Bool} {held : Bool} {t e : TypeId} {k : IntKind} {a : Option Addr} {len cap : Nat} {d : DataW H} {ps : List MemPlace} {ts : List TypeId} {ds : List (DataW H)} {j : Nat}
    (hsz : (DataW.weightsEach P ts ds).all (· ≤ reachBytes) = true) (ht : ts[j]? = some t) (hd : ds[j]? = some d) (hu : P.underlying t = some (.slice e)) (he : P.underlying e = some (.int k)) (hc : P.cellsOf e = 1) {B : Nat} (hB : P.bytesOf e = B)
    (h : DataW.Trod enc P W base spare held t (.slice a len cap) d ps) : len * B ≤ 140737488351232 := by
  obtain ⟨fuel, hf⟩ := h
  rcases open_ints hu he hc hf with ⟨hcs, _⟩ | ⟨x, l, c, zs, hcs, _, hl, _, hz, hx, _, _⟩
  · simp [Value.cells] at hcs
    obtain ⟨rfl, rfl, rfl⟩ := hcs
    simp
  · simp [Value.cells] at hcs
    obtain ⟨rfl, rfl, rfl⟩ := hcs
    obtain ⟨hx, _⟩ := Prod.mk.inj hx
    subst hx
    have z := sized_slice hsz ht hd hu
    rw [hB] at z
    have hl2 : len ≤ zs.length := by
      rw [hz]
      split
      · exact hl
      · exact Nat.le_refl _
    have h1 : (lits (H := H) k (zs.take len)).length + (lits (H := H) k (zs.drop len)).length = zs.length := by
      simp [lits]
      omega
    rw [h1] at z
    exact Nat.le_trans (Nat.mul_le_mul_right _ hl2) z
end Go.Proofs.YtogamkblkoobkaaW.PrintWords
end
section
namespace Go.Proofs.Ytogamkblkoobkaa.fnMinimal
open Go.ChangeShapes Go.WideShapes Go.ChangeAt Go.RowKit
open Go.ChangeMaps (open_string shut_string)
set_option linter.unusedVariables false
theorem own : ownKnob Try.prog.godebug = none := by kernel_rfl
theorem laidOut : laidOutB Try.prog = true := by kernel_rfl
def IsRow (k : IntKind) (w : World) (a : Option Addr) (len cap : Nat) (zs : List Int) : Prop :=
  (a = none ∧ len = 0 ∧ cap = 0 ∧ zs = []) ∨
  ∃ x, a = some x ∧ len ≤ cap ∧ cap ≤ maxLen ∧ zs.length = cap ∧ (∀ i, i < zs.length → w.cell? (x.add i) = some (.int k (zs.getD i 0))) ∧ ∀ n ∈ zs, (Lit.int k n).wf = true
set_option maxRecDepth 100000 in
theorem lifted (os : Os) (started : os.Started) (H : Type) (enc : TypeId × Value → H) :
    ReturnsInHanded {} Try.checked os 8 .any (Rows.fnMinimalSpec.pre6 enc Try.prog Try.f8 Rows.fnMinimalRow.domain false) (Rows.fnMinimalSpec.post enc Try.prog Try.f8 false true false false) := by
  refine returnsInHanded_of_change_sized (C := Try.checked) own started (by kernel_rfl) Try.func8
    (ChangeSpec.witness6 (enc := enc) (C := Try.checked) false ⟨#[], #[.slice none 0 0], []⟩ 8 (by kernel_rfl) (by kernel_rfl) (by kernel_rfl) (by kernel_rfl)) ?_
  intro W base args ds gs before hval0 hW hcnd hsz0 _
  have hsz : (DataW.weightsEach Try.prog (Try.f8.params.toList ++ Rows.fnMinimalSpec.plain.varTypes Try.prog) (ds ++ gs)).all (· ≤ reachBytes) = true := hsz0
  have hval : ∀ (j : Nat) t v, Try.f8.params[j]? = some t → args[j]? = some v → Value.okWide Try.prog W .any base t v := hval0
  have hW' := hW
  obtain ⟨p, q, hA0, hV, rfl, hfz, hnd⟩ := hW
  have hA : DataW.TrodAll enc Try.prog W 0 (fun _ => true) true Try.f8.params.toList args.toList ds p := hA0
  rw [Try.params8] at hA hval hsz
  obtain ⟨v0, vs0, d0, ds0, p0, q0, hargs, rfl, rfl, h0, r0⟩ := trodAll_cons hA
  obtain ⟨rfl, rfl, rfl⟩ := trodAll_nil r0
  obtain rfl : args = #[v0] := by cases args; simp_all
  obtain ⟨rfl, rfl⟩ := trodVars_none hV
  obtain ⟨a0, len0, cap0, rfl⟩ := okWide_slice Try.underlying41 (hval 0 41 v0 rfl rfl)
  have k0 := h0
  have lt0 : ∀ x ∈ p0, x.block < W.heap.size := by obtain ⟨m, hm⟩ := k0; exact DataW.trod_lt m _ _ _ hm
  obtain ⟨z0, w0⟩ : ∃ zs, IsRow .u8 W a0 len0 cap0 zs := by
    obtain ⟨fuel, hf⟩ := h0
    rcases open_ints Try.underlying41 Try.underlying5 (by kernel_rfl) hf with ⟨hcs, _⟩ | ⟨x, l, c, zs, hcs, _, hl, hm, hz, _, hcell, hwz⟩
    · simp [Value.cells] at hcs
      obtain ⟨rfl, rfl, rfl⟩ := hcs
      exact ⟨[], .inl ⟨rfl, rfl, rfl, rfl⟩⟩
    · simp [Value.cells] at hcs
      obtain ⟨rfl, rfl, rfl⟩ := hcs
      exact ⟨zs, .inr ⟨_, rfl, hl, hm, by simpa using hz, hcell, hwz⟩⟩
  have y0 : len0 * 1 ≤ 140737488351232 := Go.Proofs.YtogamkblkoobkaaW.PrintWords.sized_ints hsz (j := 0) (t := 41) rfl rfl Try.underlying41 Try.underlying5 (by kernel_rfl) (by kernel_rfl) h0
  clear hA0 hval0 hsz0 hsz
  refine (P.laws_FnMinimal.walk Pure.FnMinimal a0 len0 cap0 z0 W w0 y0).mono fun e W' ⟨he, bel⟩ => ?_
  subst he
  exact ⟨_, rfl, _, _, _, [], _, [], hW', trodAll_mk1 (shut_bool Try.underlying4 _), (trodAll_cons_mk (Below.trod laidOut (by kernel_rfl) (of_decide_eq_true (by kernel_rfl)) k0 bel lt0) trodAll_mk0), rfl, bel.frame _, fun h => by cases h⟩
theorem over : Rows.fnMinimalRow.holds Try.pinned (OpenSpec.ofChange Rows.fnMinimalSpec) :=
  OpenClaim.holds_of_wide 8 Try.f8 rfl rfl rfl rfl rfl rfl rfl ⟨rfl, rfl, rfl, rfl, rfl⟩ rfl rfl rfl rfl rfl (by kernel_rfl) Try.func8 (by kernel_rfl)
    (of_decide_eq_true (by kernel_rfl)) (by unfold Func.isWrapper; first | (rw [if_pos (by decide +kernel)]; kernel_rfl) | (rw [if_neg (by decide +kernel)]; exact ⟨rfl, rfl⟩))
    (fun os started H enc _ => lifted os started H enc)
theorem proved : Rows.FnMinimalSaid := over
#print axioms proved
end Go.Proofs.Ytogamkblkoobkaa.fnMinimal
namespace Go.Proofs.Ytogamkblkoobkaa
theorem fnMinimal_holds : Rows.FnMinimalSaid := fnMinimal.proved
end Go.Proofs.Ytogamkblkoobkaa
end
