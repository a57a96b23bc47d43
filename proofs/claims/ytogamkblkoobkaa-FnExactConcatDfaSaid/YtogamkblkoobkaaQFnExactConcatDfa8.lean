/- Texts of the proof of FnExactConcatDfa, put together. No condition. -/
import Derived.Test.YtogamkblkoobkaaQFnExactConcatDfa2
import Derived.Test.YtogamkblkoobkaaQFnExactConcatDfa7
import Derived.Test.YtogamkblkoobkaaQFnExactConcatDfa3
import Derived.Test.YtogamkblkoobkaaQFnExactConcatDfa5
import Derived.Test.YtogamkblkoobkaaQFnExactConcatDfa6
import Derived.Shelf.Small.Strs
import Derived.Shelf.Strings.Search1
import Derived.Test.YtogamkblkoobkaaProg
import Derived.Shelf.Abstract
import Derived.Lib.Walk
import Derived.DeepKeys4
import Derived.WideKeyPair
section
namespace Go.Proofs.Ytogamkblkoobkaa.P
open Go.RowKit Go.Proofs.YtogamkblkoobkaaW.PrintWords Go.Proofs.YtogamkblkoobkaaW.PrintLast Go.Proofs.YtogamkblkoobkaaW.PrintMore
attribute [local go_sem] max2_int min2_int max_two min_two max_three min_three max_four min_four
set_option linter.unusedVariables false
set_option linter.unusedSimpArgs false
def impl_minimized.f (l0_0 : List Bool) (l0_1 : List (List Int)) (a1 : Int) : Option (List Bool × List (List Int)) := if l0_1.length = l0_0.length ∧ l0_0.length ≤ 1100000 ∧ (∀ r ∈ l0_1, r.length = 3 ∧ ∀ q ∈ r, 0 ≤ q ∧ q < (l0_0.length : Int)) ∧ 0 ≤ a1 ∧ a1 < (l0_0.length : Int) then some (Mn.minD l0_0 l0_1 a1) else none
theorem impl_minimized.calls (A0_0 : Option Addr) (c0_0 : Nat) (l0_0 : List Bool) (A0_1 : Option Addr) (c0_1 : Nat) (l0_1 : List (List Int)) (a1 : Int) (r1 : List Bool) (r2 : List (List Int)) (w : World) (hr0_0 : Kd.C Kd.bool w A0_0 l0_0.length l0_0) (hc0_0 : l0_0.length ≤ c0_0) (hr0_1 : Kd.C (Kd.slice 3 (Kd.int .i64)) w A0_1 l0_1.length l0_1) (hc0_1 : l0_1.length ≤ c0_1) (h : impl_minimized.f l0_0 l0_1 a1 = some (r1, r2)) :
    Calls Try.prog 56 #[.agg #[.slice A0_0 l0_0.length c0_0, .slice A0_1 l0_1.length c0_1], .int .i64 a1] w fun e w' => ∃ v0_ v1_ : Value, e = .returned (.agg #[v0_, v1_]) ∧ Kd.R Kd.bool 4 w' w.heap.size (fun _ => True) v0_ r1 ∧ Kd.S (Kd.slice 3 (Kd.int .i64)) 67 w' w.heap.size (fun _ => True) v1_ r2 ∧ Below w.heap.size w w' := by
  unfold impl_minimized.f at h
  split at h
  · rename_i hp
    obtain ⟨h1, h2, h3, h4, h5⟩ := hp
    have h := Option.some.inj h
    have e1 : (Mn.minD l0_0 l0_1 a1).1 = r1 := by rw [h]
    have e2 : (Mn.minD l0_0 l0_1 a1).2 = r2 := by rw [h]
    rw [← e1, ← e2]
    exact Wk.minCalls A0_0 c0_0 l0_0 A0_1 c0_1 l0_1 a1 w hr0_0 hr0_1 h1 h2 h3 ⟨h4, h5⟩
  · cases h
end Go.Proofs.Ytogamkblkoobkaa.P
end
section
namespace Go.Proofs.Ytogamkblkoobkaa.P
open Go.RowKit Go.Proofs.YtogamkblkoobkaaW.PrintWords Go.Proofs.YtogamkblkoobkaaW.PrintLast Go.Proofs.YtogamkblkoobkaaW.PrintMore
attribute [local go_sem] max2_int min2_int max_two min_two max_three min_three max_four min_four
set_option linter.unusedVariables false
set_option linter.unusedSimpArgs false
end Go.Proofs.Ytogamkblkoobkaa.P
end
section
namespace Go.Proofs.Ytogamkblkoobkaa.P
open Go.RowKit Go.Proofs.YtogamkblkoobkaaW.PrintWords Go.Proofs.YtogamkblkoobkaaW.PrintLast Go.Proofs.YtogamkblkoobkaaW.PrintMore
attribute [local go_sem] max2_int min2_int max_two min_two max_three min_three max_four min_four
set_option linter.unusedVariables false
set_option linter.unusedSimpArgs false
end Go.Proofs.Ytogamkblkoobkaa.P
end
section
namespace Go.Proofs.Ytogamkblkoobkaa.P
open Go.RowKit Go.Proofs.YtogamkblkoobkaaW.PrintWords Go.Proofs.YtogamkblkoobkaaW.PrintLast Go.Proofs.YtogamkblkoobkaaW.PrintMore
attribute [local go_sem] max2_int min2_int max_two min_two max_three min_three max_four min_four
set_option linter.unusedVariables false
set_option linter.unusedSimpArgs false
end Go.Proofs.Ytogamkblkoobkaa.P
end
section
namespace Go.Proofs.Ytogamkblkoobkaa.Can
open Go.RowKit Go.Proofs.Ytogamkblkoobkaa Go.Proofs.Ytogamkblkoobkaa.P Go.Proofs.Ytogamkblkoobkaa.Wk Go.Proofs.Ytogamkblkoobkaa.Lg Go.Proofs.Ytogamkblkoobkaa.Pl Go.Proofs.Ytogamkblkoobkaa.Mp Go.Proofs.Ytogamkblkoobkaa.Bf Go.Proofs.Ytogamkblkoobkaa.Mn Go.Proofs.YtogamkblkoobkaaW.PrintWords Go.Proofs.YtogamkblkoobkaaW.PrintLast Go.Proofs.YtogamkblkoobkaaW.PrintMore
set_option linter.unusedVariables false
set_option linter.unusedSimpArgs false
set_option linter.unusedSectionVars false
theorem ldF_len : ∀ (m : List Int) (i : Nat) (ns ls : List Int), (ldF m i ns ls).2.length ≤ ls.length + m.length
  | [], i, ns, ls => by simp [ldF]
  | c :: m, i, ns, ls => by
    rw [ldF]
    split
    · have := ldF_len m (i + 1) ns ls
      simp only [List.length_cons]
      omega
    · have := ldF_len m (i + 1) (ns ++ [c]) (ls ++ [(i : Int)])
      simp only [List.length_append, List.length_cons, List.length_nil] at this ⊢
      omega
theorem refF_len (l1 : List (List Int)) (os : List Int) : ∀ (d : Nat) (cl : List Int) (c : Nat), cl.length = os.length → (refF l1 os d cl c).length = os.length
  | 0, cl, c, h => h
  | d + 1, cl, c, h => by
    rw [refF]
    have gl : (nmF (keys l1 os cl) [] []).2.length = os.length := by rw [nm_snd]; simp [keys]
    split
    · exact gl
    · exact refF_len l1 os d _ _ gl
theorem minD_len {acc : List Bool} {l1 : List (List Int)} (hf : Fits acc l1) {st : Int} (hst : 0 ≤ st ∧ st < (acc.length : Int)) : (minD acc l1 st).1.length ≤ acc.length ∧ (minD acc l1 st).2.length = (minD acc l1 st).1.length ∧ ∀ r ∈ (minD acc l1 st).2, r.length = 3 := by
  have h0 : ∀ x ∈ [st], 0 ≤ x ∧ x < (acc.length : Int) := fun x hx => by rw [List.mem_singleton] at hx; subst hx; exact hst
  have hR := ord_runs hf (acc.length + 2) [st] 0 (by simp) h0 (by omega)
  obtain ⟨R, hRR, hout⟩ := min_can hf hst
  have hlen : (minD acc l1 st).1.length ≤ acc.length := by
    unfold minD minT
    generalize ordF l1 (acc.length + 2) [st] 0 = os at hR
    have hn : os.Nodup := hR.nodup (by simp)
    have hdom := hR.all (p := fun x => 0 ≤ x ∧ x < (acc.length : Int)) (fun x hx y hy => (hf.row x hx).2 y hy) h0
    have h1 := refF_len l1 os (os.length + 2) (os.map (cls0 acc)) 0 (by simp)
    have h2 := card_n acc.length os hn hdom
    unfold outD
    simp only [List.length_map]
    have := ldF_len (refF l1 os (os.length + 2) (os.map (cls0 acc)) 0) 0 [] []
    simp only [List.length_nil] at this
    omega
  refine ⟨hlen, ?_, ?_⟩
  · rw [hout]
    simp [outL]
  · rw [hout]
    intro r hr
    unfold outL at hr
    obtain ⟨X, _, rfl⟩ := List.mem_map.mp hr
    simp [lsucc]
theorem fits_valid {a : List Bool} {n : List (List Int)} (hv : validD a n = true) : Fits a n := by
  obtain ⟨h1, h2, h3, h4⟩ := validD_facts hv
  refine ⟨h3, fun q hq => ?_⟩
  have hlt : q.toNat < n.length := by omega
  unfold rowOf
  rw [List.getD_eq_getElem?_getD, List.getElem?_eq_getElem hlt]
  exact h4 _ (List.getElem_mem hlt)
end Go.Proofs.Ytogamkblkoobkaa.Can
end
section
namespace Go.Proofs.Ytogamkblkoobkaa.P
open Go.RowKit Go.Proofs.YtogamkblkoobkaaW.PrintWords Go.Proofs.YtogamkblkoobkaaW.PrintLast Go.Proofs.YtogamkblkoobkaaW.PrintMore
attribute [local go_sem] max2_int min2_int max_two min_two max_three min_three max_four min_four
set_option linter.unusedVariables false
set_option linter.unusedSimpArgs false
end Go.Proofs.Ytogamkblkoobkaa.P
end
section
namespace Go.Proofs.Ytogamkblkoobkaa.P
open Go.RowKit Go.Proofs.YtogamkblkoobkaaW.PrintWords Go.Proofs.YtogamkblkoobkaaW.PrintLast Go.Proofs.YtogamkblkoobkaaW.PrintMore
attribute [local go_sem] max2_int min2_int max_two min_two max_three min_three max_four min_four
set_option linter.unusedVariables false
set_option linter.unusedSimpArgs false
end Go.Proofs.Ytogamkblkoobkaa.P
end
section
namespace Go.Proofs.Ytogamkblkoobkaa.P
open Go.RowKit Go.Proofs.YtogamkblkoobkaaW.PrintWords Go.Proofs.YtogamkblkoobkaaW.PrintLast Go.Proofs.YtogamkblkoobkaaW.PrintMore
attribute [local go_sem] max2_int min2_int max_two min_two max_three min_three max_four min_four
set_option linter.unusedVariables false
set_option linter.unusedSimpArgs false
end Go.Proofs.Ytogamkblkoobkaa.P
end
section
namespace Go.Proofs.Ytogamkblkoobkaa.P
open Go.RowKit Go.Proofs.YtogamkblkoobkaaW.PrintWords Go.Proofs.YtogamkblkoobkaaW.PrintLast Go.Proofs.YtogamkblkoobkaaW.PrintMore
attribute [local go_sem] max2_int min2_int max_two min_two max_three min_three max_four min_four
set_option linter.unusedVariables false
set_option linter.unusedSimpArgs false
end Go.Proofs.Ytogamkblkoobkaa.P
end
section
namespace Go.Proofs.Ytogamkblkoobkaa.P
open Go.RowKit Go.Proofs.YtogamkblkoobkaaW.PrintWords Go.Proofs.YtogamkblkoobkaaW.PrintLast Go.Proofs.YtogamkblkoobkaaW.PrintMore
attribute [local go_sem] max2_int min2_int max_two min_two max_three min_three max_four min_four
set_option linter.unusedVariables false
set_option linter.unusedSimpArgs false
end Go.Proofs.Ytogamkblkoobkaa.P
end
section
namespace Go.Proofs.Ytogamkblkoobkaa.Wk
open Go.RowKit Go.Shelf Go.Proofs.Ytogamkblkoobkaa.P Go.Proofs.Ytogamkblkoobkaa.Pl Go.Proofs.Ytogamkblkoobkaa.Mp Go.Proofs.Ytogamkblkoobkaa.Bf Go.Proofs.YtogamkblkoobkaaW.PrintWords Go.Proofs.YtogamkblkoobkaaW.PrintLast Go.Proofs.YtogamkblkoobkaaW.PrintMore
set_option linter.unusedVariables false
set_option linter.unusedSimpArgs false
abbrev Pr := Int × Int
theorem laidOutP : laidOutB Try.prog = true := by kernel_rfl
theorem cell_grown {w w' : World} {row : Option Nat} (hg : w.grownBy w' row) {a : Addr} (hlt : a.block < w.heap.size) (hne : some a.block ≠ row) {v : Value} (h : w.cell? a = some v) : w'.cell? a = some v := (World.cell?_of_block (hg.block _ hlt hne)).trans h
end Go.Proofs.Ytogamkblkoobkaa.Wk
end
section
namespace Go.Proofs.Ytogamkblkoobkaa.Wk
open Go.RowKit Go.Shelf Go.Proofs.Ytogamkblkoobkaa.P Go.Proofs.Ytogamkblkoobkaa.Pl Go.Proofs.Ytogamkblkoobkaa.Mp Go.Proofs.Ytogamkblkoobkaa.Bf Go.Proofs.YtogamkblkoobkaaW.PrintWords Go.Proofs.YtogamkblkoobkaaW.PrintLast Go.Proofs.YtogamkblkoobkaaW.PrintMore
set_option linter.unusedVariables false
set_option linter.unusedSimpArgs false
section
variable {P : Program} {md : Region.Mode} {ops : Array Oper} {Q : Exit → Act → World → Prop}
theorem goesFn_ {oi : Oper} {N : Option Tmp} {a : Act} {w : World} {K : Act → World → Prop} (g : FuncId) (lb : Array Value) (t : Operand) {ar : Array Operand} {ts : Array TypeId} (args : Array Value) (eg : ∀ args w, (callFunc g args).run P w = .ok (.enter g args) w)
    (hw : Region.wanted oi (yielded ops a.tmps) = true) (hN : oi.dst = N) (hop : oi.op = .call { callee := .value t, args := ar, argTypes := ts }) (ht : a.eval t = .func (.func g) #[] lb) (hargs : ar.map a.eval = args)
    (h : Calls P g (args ++ lb) w fun e w' => ∃ v, e = .returned v ∧ K (a.put N v) w') : if Region.wanted oi (yielded ops a.tmps) = true then Oper.wp P oi a w K Q else K (a.put N undef) w := by
  refine call_ g (args ++ lb) hw hN ?_ h
  unfold execOp
  simp [hop, resolve, Deferred.ofValue, invoke, ht, hargs, eg]
end
end Go.Proofs.Ytogamkblkoobkaa.Wk
end
section
namespace Go.Proofs.Ytogamkblkoobkaa.Bf
open Go.RowKit Go.Proofs.Ytogamkblkoobkaa.Pl Go.Proofs.Ytogamkblkoobkaa.Mp Go.Proofs.YtogamkblkoobkaaW.PrintWords Go.Proofs.YtogamkblkoobkaaW.PrintLast Go.Proofs.YtogamkblkoobkaaW.PrintMore
set_option linter.unusedVariables false
set_option linter.unusedSimpArgs false
set_option linter.unusedSectionVars false
section
variable {α : Type} [DecidableEq α] {nx : α → Nat → α} {x0 : α} {dom : α → Prop} {N : Nat} {good : α → Bool}
end
end Go.Proofs.Ytogamkblkoobkaa.Bf
end
section
namespace Go.Proofs.Ytogamkblkoobkaa.Can
open Go.RowKit Go.Proofs.Ytogamkblkoobkaa Go.Proofs.Ytogamkblkoobkaa.P Go.Proofs.Ytogamkblkoobkaa.Wk Go.Proofs.Ytogamkblkoobkaa.Lg Go.Proofs.Ytogamkblkoobkaa.Pl Go.Proofs.Ytogamkblkoobkaa.Mp Go.Proofs.Ytogamkblkoobkaa.Bf Go.Proofs.Ytogamkblkoobkaa.Mn Go.Proofs.YtogamkblkoobkaaW.PrintWords Go.Proofs.YtogamkblkoobkaaW.PrintLast Go.Proofs.YtogamkblkoobkaaW.PrintMore
set_option linter.unusedVariables false
set_option linter.unusedSimpArgs false
set_option linter.unusedSectionVars false
def Rows3 (n : Nat) (nx : List (List Int)) : Prop := nx.length = n ∧ ∀ r ∈ nx, r.length = 3 ∧ ∀ q ∈ r, 0 ≤ q ∧ q < (n : Int)
theorem fits_rows {acc : List Bool} {nx : List (List Int)} (h : Rows3 acc.length nx) : Fits acc nx := by
  refine ⟨h.1, fun q hq => ?_⟩
  have hlt : q.toNat < nx.length := by have := h.1; omega
  unfold rowOf
  rw [List.getD_eq_getElem?_getD, List.getElem?_eq_getElem hlt]
  exact h.2 _ (List.getElem_mem hlt)
theorem outL_rows {L : Lan} {R : List Lan} (hR : Runs lsucc [L] 0 R) : Rows3 (outL R).1.length (outL R).2 := by
  have hcl := hR.closed (fun j _ hj => by omega)
  have hlen : (outL R).1.length = R.length := by simp [outL]
  refine ⟨by simp [outL], fun r hr => ?_⟩
  obtain ⟨X, hX, rfl⟩ := List.mem_map.mp hr
  refine ⟨by simp [lsucc], fun q hq => ?_⟩
  obtain ⟨Y, hY, rfl⟩ := List.mem_map.mp hq
  have := List.idxOf_lt_length_of_mem (hcl X hX Y hY)
  rw [hlen]
  omega
theorem outL_run {L : Lan} {R : List Lan} (hR : Runs lsucc [L] 0 R) : ∀ (w : List (Fin 3)) (i : Nat) (hi : i < R.length), run (outL R).1 (outL R).2 w (i : Int) = R[i] w := by
  have hcl := hR.closed (fun j _ hj => by omega)
  intro w
  induction w with
  | nil =>
    intro i hi
    show rdOf false (R.map eps) (i : Int) = _
    rw [rdOf_get false _ i (by simpa using hi), List.getElem_map]
    rfl
  | cons k w ih =>
    intro i hi
    show run _ _ w (rd (rowOf (outL R).2 (i : Int)) (k.val : Int)) = _
    have hrow : rowOf (outL R).2 (i : Int) = (lsucc R[i]).map (fun Y => (R.idxOf Y : Int)) := by
      unfold rowOf outL
      rw [Int.toNat_natCast, List.getD_eq_getElem?_getD, List.getElem?_eq_getElem (by simpa using hi), Option.getD_some, List.getElem_map]
    have hk : rd ((lsucc R[i]).map (fun Y => (R.idxOf Y : Int))) (k.val : Int) = (R.idxOf (der R[i] k) : Int) := by
      match k with
      | 0 => rfl
      | 1 => rfl
      | 2 => rfl
    have hm : der R[i] k ∈ R := by
      refine hcl _ (List.getElem_mem hi) _ ?_
      match k with
      | 0 => simp [lsucc]
      | 1 => simp [lsucc]
      | 2 => simp [lsucc]
    rw [hrow, hk, ih _ (List.idxOf_lt_length_of_mem hm), List.getElem_idxOf (List.idxOf_lt_length_of_mem hm)]
    rfl
theorem IsCan.facts {L : Lan} {out : List Bool × List (List Int)} (h : IsCan L out) : 1 ≤ out.1.length ∧ Rows3 out.1.length out.2 ∧ lang out.1 out.2 0 = L := by
  obtain ⟨R, hR, rfl⟩ := h
  obtain ⟨t, rfl⟩ := hR.pre
  refine ⟨by simp [outL], outL_rows hR, funext fun w => ?_⟩
  exact outL_run hR w 0 (by simp)
theorem valid_of {acc : List Bool} {nx : List (List Int)} (h1 : 1 ≤ acc.length) (h2 : acc.length ≤ 40) (h3 : Rows3 acc.length nx) : validD acc nx = true := by
  unfold validD
  rw [decide_eq_true h1, decide_eq_true h2, decide_eq_true h3.1, Bool.and_self, Bool.and_self, Bool.true_and, Bool.not_eq_true', List.any_eq_false]
  intro r hr
  obtain ⟨h4, h5⟩ := h3.2 r hr
  unfold badRow
  rw [Bool.not_eq_true, Bool.or_eq_false_iff]
  refine ⟨decide_eq_false (by omega), ?_⟩
  rw [List.any_eq_false]
  intro q hq
  obtain ⟨h6, h7⟩ := h5 q hq
  unfold badState
  rw [decide_eq_true h6, decide_eq_true (show q ≤ (acc.length : Int) - 1 by omega)]
  decide
section
variable {a b : List Bool} {n m : List (List Int)}
end
end Go.Proofs.Ytogamkblkoobkaa.Can
end
section
namespace Go.Proofs.Ytogamkblkoobkaa.Can
open Go.RowKit Go.Proofs.Ytogamkblkoobkaa Go.Proofs.Ytogamkblkoobkaa.P Go.Proofs.Ytogamkblkoobkaa.Wk Go.Proofs.Ytogamkblkoobkaa.Lg Go.Proofs.Ytogamkblkoobkaa.Pl Go.Proofs.Ytogamkblkoobkaa.Mp Go.Proofs.Ytogamkblkoobkaa.Bf Go.Proofs.Ytogamkblkoobkaa.Mn Go.Proofs.YtogamkblkoobkaaW.PrintWords Go.Proofs.YtogamkblkoobkaaW.PrintLast Go.Proofs.YtogamkblkoobkaaW.PrintMore
set_option linter.unusedVariables false
set_option linter.unusedSimpArgs false
set_option linter.unusedSectionVars false
section
variable {α : Type} [DecidableEq α] {nx : α → Nat → α} {acc : α → Bool} {most : Nat}
def tl (nx : α → Nat → α) (x : α) : Nat → Nat → List α
  | 0, _ => []
  | d + 1, j => nx x j :: tl nx x d (j + 1)
def sc (nx : α → Nat → α) (x : α) : List α := tl nx x 3 0
def num (L : List α) (y : α) : Int := (idx L y).getD 0
theorem num_eq {L : List α} {y : α} (h : y ∈ L) : num L y = (L.idxOf y : Int) := by
  unfold num idx
  rw [if_pos h]
  rfl
theorem num_pre {L R : List α} {y : α} (h : y ∈ L) (hp : L <+: R) : num R y = num L y := by
  obtain ⟨t, rfl⟩ := hp
  rw [num_eq h, num_eq (List.mem_append_left _ h), List.idxOf_append, if_pos h]
theorem num_last {L : List α} {y : α} (h : y ∉ L) : num (L ++ [y]) y = (L.length : Int) := by
  rw [num_eq (by simp), List.idxOf_append, if_neg h]
  simp
theorem exRow_some {x : α} : ∀ (d j : Nat) (L : List α) (row : List Int) (L' : List α) (row' : List Int), exRow nx most x d j L row = some (L', row') → L' = adds L (tl nx x d j) ∧ row' = row ++ (tl nx x d j).map (num L') ∧ (L.length ≤ most → L'.length ≤ most)
  | 0, j, L, row, L', row', h => by
    rw [exRow] at h
    obtain ⟨rfl, rfl⟩ := Prod.mk.inj (Option.some.inj h)
    exact ⟨rfl, by simp [tl], id⟩
  | d + 1, j, L, row, L', row', h => by
    rw [exRow] at h
    by_cases hm : nx x j ∈ L
    · rw [if_pos hm] at h
      obtain ⟨h1, h2, h3⟩ := exRow_some d (j + 1) L _ L' row' h
      refine ⟨by rw [tl, adds_cons, add_in hm]; exact h1, ?_, h3⟩
      rw [h2, tl, List.map_cons, List.append_assoc, List.singleton_append]
      have : num L' (nx x j) = num L (nx x j) := num_pre hm (by rw [h1]; exact adds_pre _ _)
      rw [this]
      rfl
    · rw [if_neg hm] at h
      by_cases ho : most < L.length + 1
      · rw [if_pos ho] at h
        cases h
      · rw [if_neg ho] at h
        obtain ⟨h1, h2, h3⟩ := exRow_some d (j + 1) _ _ L' row' h
        refine ⟨by rw [tl, adds_cons, add_out hm]; exact h1, ?_, fun _ => h3 (by simp; omega)⟩
        rw [h2, tl, List.map_cons, List.append_assoc, List.singleton_append]
        have : num L' (nx x j) = num (L ++ [nx x j]) (nx x j) := num_pre (by simp) (by rw [h1]; exact adds_pre _ _)
        rw [this, num_last hm]
theorem exRow_none {x : α} : ∀ (d j : Nat) (L : List α) (row : List Int), exRow nx most x d j L row = none → most < (adds L (tl nx x d j)).length
  | 0, j, L, row, h => by rw [exRow] at h; cases h
  | d + 1, j, L, row, h => by
    rw [exRow] at h
    rw [tl, adds_cons]
    by_cases hm : nx x j ∈ L
    · rw [if_pos hm] at h
      rw [add_in hm]
      exact exRow_none d (j + 1) L _ h
    · rw [if_neg hm] at h
      rw [add_out hm]
      by_cases ho : most < L.length + 1
      · have := (adds_pre (tl nx x d (j + 1)) (L ++ [nx x j])).length_le
        simp only [List.length_append, List.length_cons, List.length_nil] at this
        omega
      · rw [if_neg ho] at h
        exact exRow_none d (j + 1) _ _ h
def rowX (nx : α → Nat → α) (R : List α) (x : α) : List Int := (sc nx x).map (num R)
structure ExInv (acc : α → Bool) (nx : α → Nat → α) (p : Ex α) (i : Nat) : Prop where
  a : p.2.1 = (p.1.take i).map acc
  m : p.2.2 = (p.1.take i).map (rowX nx p.1)
  c : ∀ x ∈ p.1.take i, ∀ y ∈ sc nx x, y ∈ p.1
theorem inv_step {p : Ex α} {i : Nat} (h : ExInv acc nx p i) (hi : i < p.1.length) {L' : List α} {row' : List Int} (h1 : L' = adds p.1 (sc nx p.1[i])) (h2 : row' = (sc nx p.1[i]).map (num L')) : ExInv acc nx (L', p.2.1 ++ [acc p.1[i]], p.2.2 ++ [row']) (i + 1) := by
  have hpre : p.1 <+: L' := by rw [h1]; exact adds_pre _ _
  have ht : L'.take (i + 1) = p.1.take i ++ [p.1[i]] := by
    rw [← List.take_succ_eq_append_getElem hi]
    obtain ⟨t, rfl⟩ := hpre
    rw [List.take_append_of_le_length (by omega)]
  refine ⟨?_, ?_, ?_⟩
  · show p.2.1 ++ [acc p.1[i]] = (L'.take (i + 1)).map acc
    rw [ht, List.map_append, ← h.a, List.map_singleton]
  · show p.2.2 ++ [row'] = (L'.take (i + 1)).map (rowX nx L')
    rw [ht, List.map_append, List.map_singleton, h.m, h2]
    congr 1
    refine List.map_congr_left fun x hx => ?_
    unfold rowX
    refine List.map_congr_left fun y hy => ?_
    exact (num_pre (h.c x hx y hy) hpre).symm
  · show ∀ x ∈ L'.take (i + 1), ∀ y ∈ sc nx x, y ∈ L'
    rw [ht]
    intro x hx y hy
    rcases List.mem_append.mp hx with hx | hx
    · exact hpre.subset (h.c x hx y hy)
    · rw [List.mem_singleton] at hx
      subst hx
      rw [h1]
      exact mem_adds.mpr (Or.inr hy)
theorem expl_some : ∀ (d : Nat) (p : Ex α) (i : Nat) (q : Ex α), most + 2 ≤ d + i → p.1.length ≤ most → i ≤ p.1.length → ExInv acc nx p i → expl acc nx most d p i = some q → Runs (sc nx) p.1 i q.1 ∧ q.1.length ≤ most ∧ q.2.1 = q.1.map acc ∧ q.2.2 = q.1.map (rowX nx q.1)
  | 0, p, i, q, hd, hp, hi, _, _ => by omega
  | d + 1, p, i, q, hd, hp, hi, hv, h => by
    rw [expl] at h
    by_cases hlt : i < p.1.length
    · rw [dif_pos hlt] at h
      obtain ⟨⟨L', row'⟩, he, h⟩ := Option.bind_eq_some_iff.mp h
      obtain ⟨h1, h2, h3⟩ := exRow_some 3 0 p.1 [] L' row' he
      obtain ⟨g1, g2⟩ := expl_some d _ (i + 1) q (by omega) (h3 hp) (by
        have : p.1.length ≤ L'.length := by rw [h1]; exact (adds_pre _ _).length_le
        show i + 1 ≤ L'.length
        omega) (inv_step hv hlt h1 (by rw [h2, List.nil_append]; rfl)) h
      refine ⟨.step hlt ?_, g2⟩
      have : L' = adds p.1 (sc nx p.1[i]) := h1
      rw [← this]
      exact g1
    · rw [dif_neg hlt] at h
      have h := Option.some.inj h
      subst h
      have ht : p.1.take i = p.1 := List.take_of_length_le (by omega)
      exact ⟨.stop (by omega), hp, by rw [hv.a, ht], by rw [hv.m, ht]⟩
def Auto (acc : α → Bool) (nx : α → Nat → α) (x0 : α) (A : List Bool) (M : List (List Int)) : Prop := ∃ R, Runs (sc nx) [x0] 0 R ∧ A = R.map acc ∧ M = R.map (rowX nx R)
theorem expl_auto {x0 : α} {q : Ex α} (h1 : 1 ≤ most) (h : expl acc nx most (most + 2) ([x0], [], []) 0 = some q) : Auto acc nx x0 q.2.1 q.2.2 ∧ q.2.1.length ≤ most := by
  obtain ⟨g1, g2, g3, g4⟩ := expl_some (most + 2) ([x0], [], []) 0 q (by omega) h1 (by simp) ⟨rfl, rfl, fun x hx => by simp at hx⟩ h
  exact ⟨⟨q.1, g1, g3, g4⟩, by rw [g3, List.length_map]; exact g2⟩
theorem Auto.rows {x0 : α} {A : List Bool} {M : List (List Int)} (h : Auto acc nx x0 A M) : 1 ≤ A.length ∧ Rows3 A.length M := by
  obtain ⟨R, hR, rfl, rfl⟩ := h
  have hcl := hR.closed (fun j _ hj => by omega)
  have hp := hR.pre.length_le
  refine ⟨by rw [List.length_map]; exact hp, by simp, fun r hr => ?_⟩
  obtain ⟨x, hx, rfl⟩ := List.mem_map.mp hr
  refine ⟨by simp [rowX, sc, tl], fun q hq => ?_⟩
  obtain ⟨y, hy, rfl⟩ := List.mem_map.mp hq
  have hm := hcl x hx y hy
  have := List.idxOf_lt_length_of_mem hm
  rw [num_eq hm, List.length_map]
  omega
theorem Auto.lang {x0 : α} {A : List Bool} {M : List (List Int)} (h : Auto acc nx x0 A M) (lam : α → Lan) {dom : α → Prop} (hd0 : dom x0) (hdn : ∀ x, dom x → ∀ y ∈ sc nx x, dom y) (he : ∀ x, dom x → lam x [] = acc x) (hs : ∀ x, dom x → ∀ (k : Fin 3) w, lam x (k :: w) = lam (nx x k.val) w) : lang A M 0 = lam x0 := by
  obtain ⟨R, hR, rfl, rfl⟩ := h
  have hcl := hR.closed (fun j _ hj => by omega)
  have hall := hR.all (p := dom) hdn (fun x hx => by rw [List.mem_singleton] at hx; subst hx; exact hd0)
  have H : ∀ (w : List (Fin 3)) (i : Nat) (hi : i < R.length), run (R.map acc) (R.map (rowX nx R)) w (i : Int) = lam R[i] w := by
    intro w
    induction w with
    | nil =>
      intro i hi
      show rdOf false (R.map acc) (i : Int) = _
      rw [rdOf_get false _ i (by simpa using hi), List.getElem_map, he _ (hall _ (List.getElem_mem hi))]
    | cons k w ih =>
      intro i hi
      show run _ _ w (rd (rowOf (R.map (rowX nx R)) (i : Int)) (k.val : Int)) = _
      have hrow : rowOf (R.map (rowX nx R)) (i : Int) = rowX nx R R[i] := by
        unfold rowOf
        rw [Int.toNat_natCast, List.getD_eq_getElem?_getD, List.getElem?_eq_getElem (by simpa using hi), Option.getD_some, List.getElem_map]
      have hk : rd (rowX nx R R[i]) (k.val : Int) = num R (nx R[i] k.val) := by
        match k with
        | 0 => rfl
        | 1 => rfl
        | 2 => rfl
      have hm : nx R[i] k.val ∈ R := by
        refine hcl _ (List.getElem_mem hi) _ ?_
        match k with
        | 0 => simp [sc, tl]
        | 1 => simp [sc, tl]
        | 2 => simp [sc, tl]
      have hlt := List.idxOf_lt_length_of_mem hm
      rw [hrow, hk, num_eq hm, ih _ hlt, List.getElem_idxOf hlt, hs _ (hall _ (List.getElem_mem hi))]
  obtain ⟨t, rfl⟩ := hR.pre
  exact funext fun w => H w 0 (by simp)
end
def fitD (A : List Bool) (M : List (List Int)) : List Bool × List (List Int) × Bool := if (minD A M 0).1.length ≤ 40 then ((minD A M 0).1, (minD A M 0).2, true) else ([], [], false)
theorem fitD_len {A : List Bool} {M : List (List Int)} (hA : 1 ≤ A.length) (hM : Rows3 A.length M) : (fitD A M).1.length ≤ 40 ∧ (fitD A M).2.1.length ≤ 40 ∧ ∀ r ∈ (fitD A M).2.1, r.length = 3 := by
  unfold fitD
  obtain ⟨l1, l2, l3⟩ := minD_len (fits_rows hM) (st := 0) (by omega)
  by_cases h : (minD A M 0).1.length ≤ 40
  · rw [if_pos h]
    exact ⟨h, by show (minD A M 0).2.length ≤ 40; omega, l3⟩
  · rw [if_neg h]
    simp
end Go.Proofs.Ytogamkblkoobkaa.Can
end
section
namespace Go.Proofs.Ytogamkblkoobkaa.Can
open Go.RowKit Go.Proofs.Ytogamkblkoobkaa Go.Proofs.Ytogamkblkoobkaa.P Go.Proofs.Ytogamkblkoobkaa.Wk Go.Proofs.Ytogamkblkoobkaa.Lg Go.Proofs.Ytogamkblkoobkaa.Pl Go.Proofs.Ytogamkblkoobkaa.Mp Go.Proofs.Ytogamkblkoobkaa.Bf Go.Proofs.Ytogamkblkoobkaa.Mn Go.Proofs.YtogamkblkoobkaaW.PrintWords Go.Proofs.YtogamkblkoobkaaW.PrintLast Go.Proofs.YtogamkblkoobkaaW.PrintMore
set_option linter.unusedVariables false
set_option linter.unusedSimpArgs false
def U64 (s : Int) : Prop := 0 ≤ s ∧ s < 18446744073709551616
def bit (s : Int) (q : Nat) : Bool := s.toNat.testBit q
theorem and_nat {m n : Nat} (hm : m < 18446744073709551616) (hn : n < 18446744073709551616) : Go.bits .and .u64 (m : Int) (n : Int) = ((m &&& n : Nat) : Int) := by
  show IntKind.u64.wrap ((BitVec.ofInt 64 (m : Int) &&& BitVec.ofInt 64 (n : Int)).toNat : Int) = _
  have h : (BitVec.ofInt 64 (m : Int) &&& BitVec.ofInt 64 (n : Int)).toNat = m &&& n := by
    rw [BitVec.toNat_and, BitVec.ofInt_natCast, BitVec.ofInt_natCast, BitVec.toNat_ofNat, BitVec.toNat_ofNat, Nat.mod_eq_of_lt (by omega), Nat.mod_eq_of_lt (by omega)]
  have hl : m &&& n ≤ n := Nat.and_le_right
  rw [h, IntKind.wrap_u64]
  omega
theorem or_nat {m n : Nat} (hm : m < 18446744073709551616) (hn : n < 18446744073709551616) : Go.bits .or .u64 (m : Int) (n : Int) = ((m ||| n : Nat) : Int) := by
  show IntKind.u64.wrap ((BitVec.ofInt 64 (m : Int) ||| BitVec.ofInt 64 (n : Int)).toNat : Int) = _
  have h : (BitVec.ofInt 64 (m : Int) ||| BitVec.ofInt 64 (n : Int)).toNat = m ||| n := by
    rw [BitVec.toNat_or, BitVec.ofInt_natCast, BitVec.ofInt_natCast, BitVec.toNat_ofNat, BitVec.toNat_ofNat, Nat.mod_eq_of_lt (by omega), Nat.mod_eq_of_lt (by omega)]
  have hl : m ||| n < 2 ^ 64 := Nat.or_lt_two_pow (by omega) (by omega)
  rw [h, IntKind.wrap_u64]
  omega
theorem bit_test {s : Int} (h : U64 s) {q : Nat} (hq : q < 64) : (Go.bits .and .u64 (shr .u64 s (q : Int)) 1 = 1) ↔ bit s q = true := by
  obtain ⟨m, rfl⟩ : ∃ m : Nat, s = (m : Int) := ⟨s.toNat, by have := h.1; omega⟩
  have hm : m < 18446744073709551616 := by have := h.2; omega
  have e : shr .u64 (m : Int) (q : Int) = ((m / 2 ^ q : Nat) : Int) := by
    unfold shr
    rw [Int.toNat_natCast, Nat.min_eq_left (show q ≤ IntKind.u64.bits by show q ≤ 64; omega)]
    norm_cast
  have hd : m / 2 ^ q ≤ m := Nat.div_le_self _ _
  rw [e, show (1 : Int) = ((1 : Nat) : Int) from rfl, and_nat (by omega) (by omega), Nat.and_one_is_mod]
  unfold bit
  rw [Int.toNat_natCast, Nat.testBit_eq_decide_div_mod_eq, decide_eq_true_iff]
  constructor
  · intro h; omega
  · intro h; omega
theorem bit_or {s : Int} (h : U64 s) {q : Nat} (hq : q < 64) : U64 (Go.bits .or .u64 s (shl .u64 1 (q : Int))) ∧ ∀ p, bit (Go.bits .or .u64 s (shl .u64 1 (q : Int))) p = (bit s p || decide (p = q)) := by
  obtain ⟨m, rfl⟩ : ∃ m : Nat, s = (m : Int) := ⟨s.toNat, by have := h.1; omega⟩
  have hm : m < 18446744073709551616 := by have := h.2; omega
  have hp : 2 ^ q < 2 ^ 64 := Nat.pow_lt_pow_right (by omega) hq
  have e : shl .u64 1 (q : Int) = ((2 ^ q : Nat) : Int) := by
    unfold shl
    rw [Int.toNat_natCast, Nat.min_eq_left (show q ≤ IntKind.u64.bits by show q ≤ 64; omega), IntKind.wrap_u64]
    have : ((2 : Int) ^ q) = ((2 ^ q : Nat) : Int) := by norm_cast
    rw [Int.one_mul, this]
    generalize 2 ^ q = c at hp ⊢
    omega
  rw [e, or_nat hm (by omega)]
  have hl : m ||| 2 ^ q < 2 ^ 64 := Nat.or_lt_two_pow (by omega) hp
  refine ⟨⟨by omega, by omega⟩, fun p => ?_⟩
  unfold bit
  rw [Int.toNat_natCast, Int.toNat_natCast, Nat.testBit_or, Nat.testBit_two_pow]
  congr 1
  exact decide_eq_decide.mpr ⟨fun h => h.symm, fun h => h.symm⟩
theorem bit_one {s : Int} (h : U64 s) : U64 (Go.bits .or .u64 s 1) ∧ ∀ p, bit (Go.bits .or .u64 s 1) p = (bit s p || decide (p = 0)) := by
  have := bit_or h (q := 0) (by omega)
  have e : shl .u64 1 ((0 : Nat) : Int) = 1 := by
    unfold shl
    rw [IntKind.wrap_u64]
    rfl
  rw [e] at this
  exact this
theorem bit_ext {s t : Int} (hs : U64 s) (ht : U64 t) (h : ∀ p, bit s p = bit t p) : s = t := by
  have : s.toNat = t.toNat := Nat.eq_of_testBit_eq h
  have := hs.1
  have := ht.1
  omega
def mvI (nx : List (List Int)) (s : Int) (j : Int) : Nat → Nat → Int → Int
  | 0, _, r => r
  | d + 1, q, r => mvI nx s j d (q + 1) (if bit s q = true then Go.bits .or .u64 r (shl .u64 1 (rd (rowOf nx (q : Int)) j)) else r)
def mvS (nx : List (List Int)) (s : Int) (j : Int) : Int := mvI nx s j nx.length 0 0
def acI (acc : List Bool) (s : Int) : Nat → Nat → Bool
  | 0, _ => false
  | d + 1, q => if rdOf false acc (q : Int) = true ∧ bit s q = true then true else acI acc s d (q + 1)
def acS (acc : List Bool) (s : Int) : Bool := acI acc s acc.length 0
theorem acI_iff (acc : List Bool) (s : Int) : ∀ d q, acI acc s d q = true ↔ ∃ p, q ≤ p ∧ p < q + d ∧ rdOf false acc (p : Int) = true ∧ bit s p = true
  | 0, q => by
    rw [acI]
    constructor
    · intro h; cases h
    · rintro ⟨p, h1, h2, _⟩; omega
  | d + 1, q => by
    rw [acI]
    by_cases h : rdOf false acc (q : Int) = true ∧ bit s q = true
    · rw [if_pos h]
      exact ⟨fun _ => ⟨q, Nat.le_refl _, by omega, h.1, h.2⟩, fun _ => rfl⟩
    · rw [if_neg h, acI_iff acc s d (q + 1)]
      constructor
      · rintro ⟨p, h1, h2, h3⟩; exact ⟨p, by omega, by omega, h3⟩
      · rintro ⟨p, h1, h2, h3⟩
        by_cases e : p = q
        · subst e; exact absurd h3 h
        · exact ⟨p, by omega, by omega, h3⟩
theorem acS_iff (acc : List Bool) (s : Int) : acS acc s = true ↔ ∃ p, p < acc.length ∧ rdOf false acc (p : Int) = true ∧ bit s p = true := by
  unfold acS
  rw [acI_iff]
  constructor
  · rintro ⟨p, h1, h2, h3⟩; exact ⟨p, by omega, h3⟩
  · rintro ⟨p, h1, h3⟩; exact ⟨p, by omega, by omega, h3⟩
section
variable {a : List Bool} {n : List (List Int)} {s : Int}
theorem mvI_bits (hf : Fits a n) (ha : a.length ≤ 40) (j : Nat) (hj : j < 3) : ∀ (d q : Nat) (r : Int), q + d = n.length → U64 r → U64 (mvI n s (j : Int) d q r) ∧ ∀ p, bit (mvI n s (j : Int) d q r) p = true ↔ bit r p = true ∨ ∃ z, q ≤ z ∧ z < n.length ∧ bit s z = true ∧ rd (rowOf n (z : Int)) (j : Int) = (p : Int)
  | 0, q, r, hq, hr => by
    rw [mvI]
    refine ⟨hr, fun p => ⟨Or.inl, ?_⟩⟩
    rintro (h | ⟨z, h1, h2, _⟩)
    · exact h
    · omega
  | d + 1, q, r, hq, hr => by
    have hl := hf.len
    obtain ⟨g1, g2⟩ := hf.row (q : Int) (by omega)
    have hy := g2 (rd (rowOf n (q : Int)) (j : Int)) (by rw [rd_get _ j (by omega)]; exact List.getElem_mem _)
    generalize hyy : rd (rowOf n (q : Int)) (j : Int) = y at hy
    obtain ⟨t, rfl⟩ : ∃ t : Nat, y = (t : Int) := ⟨y.toNat, by omega⟩
    rw [mvI, hyy]
    by_cases h : bit s q = true
    · rw [if_pos h]
      obtain ⟨u1, u2⟩ := bit_or hr (q := t) (by omega)
      obtain ⟨v1, v2⟩ := mvI_bits hf ha j hj d (q + 1) _ (by omega) u1
      refine ⟨v1, fun p => ?_⟩
      rw [v2, u2, Bool.or_eq_true, decide_eq_true_iff]
      constructor
      · rintro ((h1 | rfl) | ⟨z, h1, h2, h3⟩)
        · exact Or.inl h1
        · exact Or.inr ⟨q, Nat.le_refl _, by omega, h, hyy⟩
        · exact Or.inr ⟨z, by omega, h2, h3⟩
      · rintro (h1 | ⟨z, h1, h2, h3, h4⟩)
        · exact Or.inl (Or.inl h1)
        · by_cases e : z = q
          · subst e
            rw [hyy] at h4
            exact Or.inl (Or.inr (by omega))
          · exact Or.inr ⟨z, by omega, h2, h3, h4⟩
    · rw [if_neg h]
      obtain ⟨v1, v2⟩ := mvI_bits hf ha j hj d (q + 1) r (by omega) hr
      refine ⟨v1, fun p => ?_⟩
      rw [v2]
      constructor
      · rintro (h1 | ⟨z, h1, h2, h3⟩)
        · exact Or.inl h1
        · exact Or.inr ⟨z, by omega, h2, h3⟩
      · rintro (h1 | ⟨z, h1, h2, h3, h4⟩)
        · exact Or.inl h1
        · by_cases e : z = q
          · subst e; exact absurd h3 h
          · exact Or.inr ⟨z, by omega, h2, h3, h4⟩
theorem mvS_bits (hf : Fits a n) (ha : a.length ≤ 40) (j : Nat) (hj : j < 3) : U64 (mvS n s (j : Int)) ∧ ∀ p, bit (mvS n s (j : Int)) p = true ↔ ∃ z, z < n.length ∧ bit s z = true ∧ rd (rowOf n (z : Int)) (j : Int) = (p : Int) := by
  obtain ⟨h1, h2⟩ := mvI_bits (s := s) hf ha j hj n.length 0 0 (by omega) ⟨by omega, by omega⟩
  refine ⟨h1, fun p => ?_⟩
  unfold mvS
  rw [h2]
  constructor
  · rintro (h | ⟨z, _, h3⟩)
    · unfold bit at h
      simp at h
    · exact ⟨z, h3⟩
  · rintro ⟨z, h3⟩
    exact Or.inr ⟨z, Nat.zero_le _, h3⟩
theorem impl_moved_l0 (hf : Fits a n) (ha : a.length ≤ 40) (hs : U64 s) (j : Nat) (hj : j < 3) : ∀ (d q : Nat) (r : Int), q + d = n.length → Ev (fun k => impl_moved.l0 k s (j : Int) r n (n.length : Int) (q : Int)) (mvI n s (j : Int) d q r)
  | 0, q, r, hq => by
    refine next ?_
    simp only [impl_moved.l0, if_neg (show ¬ (q : Int) < (n.length : Int) by omega)]
    exact Ev.now _
  | d + 1, q, r, hq => by
    have hl := hf.len
    obtain ⟨g1, g2⟩ := hf.row (q : Int) (by omega)
    have hy := g2 (rd (rowOf n (q : Int)) (j : Int)) (by rw [rd_get _ j (by omega)]; exact List.getElem_mem _)
    have hrow : rd_L1 n (q : Int) = rowOf n (q : Int) := rfl
    have IH := fun r => impl_moved_l0 hf ha hs j hj d (q + 1) r (by omega)
    refine next ?_
    rw [mvI]
    simp only [impl_moved.l0, if_pos (show (q : Int) < (n.length : Int) by omega), if_pos (show (0 : Int) ≤ (q : Int) by omega), hrow, if_pos (show (0 : Int) ≤ (j : Int) by omega), if_pos (show (j : Int) < ((rowOf n (q : Int)).length : Int) by omega), if_pos hy.1]
    rw [up1 (by omega)]
    by_cases h : bit s q = true
    · simp only [if_pos ((bit_test hs (by omega)).mpr h), if_pos h]
      exact IH _
    · simp only [if_neg (fun h2 => h ((bit_test hs (by omega)).mp h2)), if_neg h]
      exact IH _
theorem impl_moved_ev (hf : Fits a n) (ha : a.length ≤ 40) (hs : U64 s) (j : Nat) (hj : j < 3) : Ev (fun k => impl_moved.f k a n s (j : Int)) (mvS n s (j : Int)) := by
  simp only [impl_moved.f]
  exact impl_moved_l0 hf ha hs j hj n.length 0 0 (by omega)
theorem impl_accepting_l0 (ha : a.length ≤ 40) (hs : U64 s) : ∀ (d q : Nat), q + d = a.length → Ev (fun k => impl_accepting.l0 k s a (a.length : Int) (q : Int)) (acI a s d q)
  | 0, q, hq => by
    refine next ?_
    simp only [impl_accepting.l0, if_neg (show ¬ (q : Int) < (a.length : Int) by omega)]
    exact Ev.now _
  | d + 1, q, hq => by
    have IH := impl_accepting_l0 ha hs d (q + 1) (by omega)
    refine next ?_
    rw [acI]
    simp only [impl_accepting.l0, if_pos (show (q : Int) < (a.length : Int) by omega), if_pos (show (0 : Int) ≤ (q : Int) by omega)]
    rw [up1 (by omega)]
    by_cases h1 : rdOf false a (q : Int) = true
    · by_cases h : bit s q = true
      · simp only [if_pos h1, if_pos ((bit_test hs (by omega)).mpr h), if_pos (And.intro h1 h)]
        exact Ev.now _
      · simp only [if_pos h1, if_neg (fun h2 => h ((bit_test hs (by omega)).mp h2)), if_neg (fun h2 : rdOf false a (q : Int) = true ∧ bit s q = true => h h2.2)]
        exact IH
    · simp only [if_neg h1, if_neg (fun h2 : rdOf false a (q : Int) = true ∧ bit s q = true => h1 h2.1)]
      exact IH
theorem impl_accepting_ev (ha : a.length ≤ 40) (hs : U64 s) : Ev (fun k => impl_accepting.f k a n s) (acS a s) := by
  simp only [impl_accepting.f]
  exact impl_accepting_l0 ha hs a.length 0 (by omega)
end
end Go.Proofs.Ytogamkblkoobkaa.Can
end
section
namespace Go.Proofs.Ytogamkblkoobkaa.P
open Go.RowKit Go.Proofs.YtogamkblkoobkaaW.PrintWords Go.Proofs.YtogamkblkoobkaaW.PrintLast Go.Proofs.YtogamkblkoobkaaW.PrintMore
attribute [local go_sem] max2_int min2_int max_two min_two max_three min_three max_four min_four
set_option linter.unusedVariables false
set_option linter.unusedSimpArgs false
def spec_l6Put.l0 : Nat → List Int → Int → Int → Option (List Int)
  | 0, _, _, _ => none
  | k + 1, x0, x1, x5 => if x5 < (x0.length : Int) then (if 0 ≤ x5 then (if (rd x0 x5) < x1 then (spec_l6Put.l0 k x0 x1 (wrap64 (x5 + 1))) else (if (rd x0 x5) = x1 then (some x0) else ((some (([] : List Int) : List Int)).bind fun ap => (if x5 ≤ (x0.length : Int) then ((some (x0.take (x5 : Int).toNat : List Int)).bind fun ag => (if ap.length + ag.length < 17592186044416 then ((some (ap ++ ag : List Int)).bind fun ak => (if ak.length < 17592186044416 then ((some (ak ++ [x1] : List Int)).bind fun ah => ((some (x0.drop (x5 : Int).toNat : List Int)).bind fun ad => (if ah.length + ad.length < 17592186044416 then (some (ah ++ ad)) else (none)))) else (none))) else (none))) else (none))))) else (none)) else ((some (([] : List Int) : List Int)).bind fun aq => (if 0 ≤ x5 then (if x5 ≤ (x0.length : Int) then ((some (x0.take (x5 : Int).toNat : List Int)).bind fun ai => (if aq.length + ai.length < 17592186044416 then ((some (aq ++ ai : List Int)).bind fun al => (if al.length < 17592186044416 then ((some (al ++ [x1] : List Int)).bind fun aj => ((some (x0.drop (x5 : Int).toNat : List Int)).bind fun ae => (if aj.length + ae.length < 17592186044416 then (some (aj ++ ae)) else (none)))) else (none))) else (none))) else (none)) else (none)))
def spec_l6Put.f (k : Nat) (l0 : List Int) (a1 : Int) : Option (List Int) := spec_l6Put.l0 k l0 a1 0
theorem spec_l6Put.mono_l : ∀ k, (∀ y0 y1 y2, LeO (spec_l6Put.l0 k y0 y1 y2) (spec_l6Put.l0 (k + 1) y0 y1 y2))
 | 0 => fun _ _ _ r h => by simp [spec_l6Put.l0] at h
 | k + 1 => by
  have ih0 := spec_l6Put.mono_l k
  ·intro y0 y1 y2
   unfold spec_l6Put.l0
   repeat' first
   | (with_reducible exact ih0 _ _ _)
   | (with_reducible exact LeO.refl _)
   | (with_reducible exact LeO.none _)
   | (with_reducible refine LeO.ite ?_ ?_)
   | (with_reducible refine LeO.bind ?_ (fun _ => ?_))
   | exact ih0 _ _ _
   | exact LeO.none _
   | refine LeO.ite ?_ ?_
   | refine LeO.bind ?_ (fun _ => ?_)
theorem spec_l6Put.mono : ∀ a0 a1 k, LeO (spec_l6Put.f k a0 a1) (spec_l6Put.f (k + 1) a0 a1) := by
 intro a0 a1 k
 have ih0 := spec_l6Put.mono_l k
 unfold spec_l6Put.f
 repeat' first
   | (with_reducible exact ih0 _ _ _)
   | (with_reducible exact LeO.refl _)
   | (with_reducible exact LeO.none _)
   | (with_reducible refine LeO.ite ?_ ?_)
   | (with_reducible refine LeO.bind ?_ (fun _ => ?_))
   | exact ih0 _ _ _
   | exact LeO.none _
   | refine LeO.ite ?_ ?_
   | refine LeO.bind ?_ (fun _ => ?_)
theorem zp25_0_ {p q : Prop} (h : p) (c : p → q := by intro h_; repeat (first | (with_reducible first | exact h_ | apply Kept.alloc | apply Kept.drewN | apply Kept.drew) | exact h_)) : q := c h
theorem zp25_1_ {p q : Prop} (h : p) (c : p → q := by intro h_; repeat (first | (with_reducible first | exact h_ | apply below_alloc | apply pw_below_drewN | apply below_drew1) | exact h_)) : q := c h
set_option maxHeartbeats 8000000 in
set_option maxRecDepth 100000 in
theorem spec_l6Put.calls (k : Nat) (P0_ : Nat → Prop) (u9000_ : Value) (l0 : List Int) (a1 : Int) (r : List Int) (w0 w : World) (hB : Below w0.heap.size w0 w) (ho0 : Kd.R (Kd.int .i64) 3 w w0.heap.size P0_ u9000_ l0) (h : spec_l6Put.f k l0 a1 = some r) :
  Calls Try.prog 74 #[u9000_, .int .i64 a1] w fun e w' => ∃ v0_ : Value, e = .returned (v0_) ∧ Kd.R (Kd.int .i64) 3 w' w0.heap.size (fun k_ => (P0_ k_ ∨ w.heap.size ≤ k_)) v0_ r ∧ Below w0.heap.size w0 w' ∧ Kept w w' (fun k_ => P0_ k_) := by
 have HO0 := am_ (show Kd.R (Kd.int .i64) 3 w w0.heap.size (fun k_ => (P0_ k_ ∨ w.heap.size ≤ k_)) u9000_ l0 from Kd.R_mono ho0 (fun k_ hk => (.inl hk)))
 have HK := am_ (Kept.refl w (fun k_ => P0_ k_))
 have HW0 := am_ hB.size
 have HB := am_ hB
 clear hB
 have H : (spec_l6Put.l0 k l0 a1 0) = some r := h
 clear h
 have H' := am_ H
 clear H
 go_enter Try.func74, Try.ntmps74
 go_wp2
 go_loopg [5] k (fun kq v5 w' => ∃ (aa : Int), v5 = .int .i64 aa ∧ Aside0 (spec_l6Put.l0 kq l0 a1 aa = some r) ∧ Aside0 (kq ≤ k) ∧ Aside0 (Kd.R (Kd.int .i64) 3 w' w0.heap.size (fun k_ => (P0_ k_ ∨ w.heap.size ≤ k_)) u9000_ l0) ∧ Aside0 (Kept w w' (fun k_ => P0_ k_)) ∧ Aside0 (Below w0.heap.size w0 w'))
 case atStart => exact ⟨(0), (by first | rfl | (simp; done) | (simp [*]; done)), H', ⟨Nat.le_refl _⟩, ⟨by refine rr_ ?_; exact HO0.out⟩, ⟨by exact zp25_0_ HK.out⟩, ⟨by exact zp25_1_ HB.out⟩⟩
 case round =>
  clear H'
  try clear p2
  obtain ⟨aa, rfl, HA, HK1, ab, HK, HB⟩ := hrel
  cases gk with
  | zero => exact absurd HA.out (by simp [spec_l6Put.l0])
  | succ k1 =>
   have H := HA.out
   clear HA
   simp only [spec_l6Put.l0] at H
   by_cases c3 : aa < (l0.length : Int)
   ·rw [if_pos c3] at H
    have c3b0 : decide (aa < (l0.length : Int)) = true := decide_eq_true c3
    clear c3
    by_cases c4 : 0 ≤ aa
    ·rw [if_pos c4] at H
     have c4b0 : decide (0 ≤ aa) = true := decide_eq_true c4
     clear c4
     by_cases c5 : (rd l0 aa) < a1
     ·rw [if_pos c5] at H
      have c5b0 : decide ((rd l0 aa) < a1) = true := decide_eq_true c5
      clear c5
      have H' := am_ H
      clear H
      obtain ⟨Ao6, co6, eo6⟩ := Kd.R_slice ab.out
      subst eo6
      have p348 : 0 ≤ (aa : Int) := of_decide_eq_true ah_
      have q348 : aa < (l0.length : Int) := of_decide_eq_true ah_
      obtain ⟨af, e348, av⟩ := Kd.at_int (Kd.R_reads' ab.out).2.2 aa p348 q348
      cases e348
      replace p348 := eq_true p348
      replace q348 := eq_true q348
      go_wp2
      go_roundg k1
      case measure => have := HK1.out; omega
      case rel => exact ⟨(wrap64 (aa + 1)), (by first | rfl | (simp; done) | (simp [*]; done)), H', ⟨by have := HK1.out; omega⟩, ⟨by refine rr_ ?_; exact ab.out⟩, ⟨by exact zp25_0_ HK.out⟩, ⟨by exact zp25_1_ HB.out⟩⟩
     ·rw [if_neg c5] at H
      have c5b0 : decide ((rd l0 aa) < a1) = false := decide_eq_false c5
      clear c5
      by_cases c7 : (rd l0 aa) = a1
      ·rw [if_pos c7] at H
       have c7b0 : ((rd l0 aa) == a1) = true := beq_iff_eq.mpr c7
       have c7b1 : ((rd l0 aa) != a1) = false := bne_eq_false_iff_eq.mpr c7
       clear c7
       obtain rfl := Option.some.inj H
       simp only [Option.some.injEq, Prod.mk.injEq] at H
       obtain ⟨rfl⟩ := H
       obtain ⟨Ao8, co8, eo8⟩ := Kd.R_slice ab.out
       subst eo8
       have p348 : 0 ≤ (aa : Int) := of_decide_eq_true ah_
       have q348 : aa < (l0.length : Int) := of_decide_eq_true ah_
       obtain ⟨af, e348, av⟩ := Kd.at_int (Kd.R_reads' ab.out).2.2 aa p348 q348
       cases e348
       replace p348 := eq_true p348
       replace q348 := eq_true q348
       have p349 : 0 ≤ (aa : Int) := of_decide_eq_true ah_
       have q349 : aa < (l0.length : Int) := of_decide_eq_true ah_
       obtain ⟨aw, e349, aJ⟩ := Kd.at_int (Kd.R_reads' ab.out).2.2 aa p349 q349
       obtain rfl : af = aw := (by injection e349)
       replace p349 := eq_true p349
       replace q349 := eq_true q349
       go_wp2
       go_ret
       exact ⟨_, by first | rfl | (simp [errW_none, errW_some] <;> rfl) | (simp [*, errW_none, errW_some] <;> rfl), by refine rr_ ?_; exact ab.out, by exact zp25_1_ HB.out, by exact zp25_0_ HK.out⟩
      ·rw [if_neg c7] at H
       have c7b0 : ((rd l0 aa) == a1) = false := beq_eq_false_iff_ne.mpr c7
       have c7b1 : ((rd l0 aa) != a1) = true := bne_iff_ne.mpr c7
       obtain ⟨ap, hy350⟩ : ∃ y_ : List Int, y_ = (([] : List Int)) := ⟨_, rfl⟩
       replace H : (if aa ≤ (l0.length : Int) then ((some (l0.take (aa : Int).toNat : List Int)).bind fun ag => (if ap.length + ag.length < 17592186044416 then ((some (ap ++ ag : List Int)).bind fun ak => (if ak.length < 17592186044416 then ((some (ak ++ [a1] : List Int)).bind fun ah => ((some (l0.drop (aa : Int).toNat : List Int)).bind fun ad => (if ah.length + ad.length < 17592186044416 then (some (ah ++ ad)) else (none)))) else (none))) else (none))) else (none)) = some r := by first | (rw [hy350]; with_reducible exact H) | (have H2_ := (Option.bind_some _ _).symm.trans H; rw [hy350]; with_reducible exact H2_) | (have H2_ := (Option.bind_some _ _).symm.trans H; with_reducible exact H2_) | with_reducible exact H | (rw [hy350]; exact H) | exact H
       have aH := am_ hy350
       clear hy350
       have c9b0 := eq_true (of_decide_eq_true ah_ : 0 ≤ aa)
       by_cases c10 : aa ≤ (l0.length : Int)
       ·rw [if_pos c10] at H
        have c10b0 := eq_true c10
        have c10b1 : decide (aa ≤ (l0.length : Int)) = true := decide_eq_true c10
        clear c10
        obtain ⟨ag, hy353⟩ : ∃ y_ : List Int, y_ = (l0.take (aa : Int).toNat) := ⟨_, rfl⟩
        replace H : (if ap.length + ag.length < 17592186044416 then ((some (ap ++ ag : List Int)).bind fun ak => (if ak.length < 17592186044416 then ((some (ak ++ [a1] : List Int)).bind fun ah => ((some (l0.drop (aa : Int).toNat : List Int)).bind fun ad => (if ah.length + ad.length < 17592186044416 then (some (ah ++ ad)) else (none)))) else (none))) else (none)) = some r := by first | (rw [hy353]; with_reducible exact H) | (have H2_ := (Option.bind_some _ _).symm.trans H; rw [hy353]; with_reducible exact H2_) | (have H2_ := (Option.bind_some _ _).symm.trans H; with_reducible exact H2_) | with_reducible exact H | (rw [hy353]; exact H) | exact H
        have ar := am_ hy353
        clear hy353
        by_cases c11 : ap.length + ag.length < 17592186044416
        ·rw [if_pos c11] at H
         have LMc11 := am_ c11
         clear c11
         obtain ⟨ak, hy357⟩ : ∃ y_ : List Int, y_ = (ap ++ ag) := ⟨_, rfl⟩
         replace H : (if ak.length < 17592186044416 then ((some (ak ++ [a1] : List Int)).bind fun ah => ((some (l0.drop (aa : Int).toNat : List Int)).bind fun ad => (if ah.length + ad.length < 17592186044416 then (some (ah ++ ad)) else (none)))) else (none)) = some r := by first | (rw [hy357]; with_reducible exact H) | (have H2_ := (Option.bind_some _ _).symm.trans H; rw [hy357]; with_reducible exact H2_) | (have H2_ := (Option.bind_some _ _).symm.trans H; with_reducible exact H2_) | with_reducible exact H | (rw [hy357]; exact H) | exact H
         have aK := am_ hy357
         clear hy357
         by_cases c12 : ak.length < 17592186044416
         ·rw [if_pos c12] at H
          have LMc12 := am_ c12
          clear c12
          obtain ⟨ah, hy360⟩ : ∃ y_ : List Int, y_ = (ak ++ [a1]) := ⟨_, rfl⟩
          replace H : ((some (l0.drop (aa : Int).toNat : List Int)).bind fun ad => (if ah.length + ad.length < 17592186044416 then (some (ah ++ ad)) else (none))) = some r := by first | (rw [hy360]; with_reducible exact H) | (have H2_ := (Option.bind_some _ _).symm.trans H; rw [hy360]; with_reducible exact H2_) | (have H2_ := (Option.bind_some _ _).symm.trans H; with_reducible exact H2_) | with_reducible exact H | (rw [hy360]; exact H) | exact H
          have aM := am_ hy360
          clear hy360
          have c13b0 := eq_true (of_decide_eq_true ah_ : 0 ≤ aa)
          have c14b0 := eq_true (of_decide_eq_true ah_ : aa ≤ (l0.length : Int))
          obtain ⟨ad, hy363⟩ : ∃ y_ : List Int, y_ = (l0.drop (aa : Int).toNat) := ⟨_, rfl⟩
          replace H : (if ah.length + ad.length < 17592186044416 then (some (ah ++ ad)) else (none)) = some r := by first | (rw [hy363]; with_reducible exact H) | (have H2_ := (Option.bind_some _ _).symm.trans H; rw [hy363]; with_reducible exact H2_) | (have H2_ := (Option.bind_some _ _).symm.trans H; with_reducible exact H2_) | with_reducible exact H | (rw [hy363]; exact H) | exact H
          have ax := am_ hy363
          clear hy363
          by_cases c15 : ah.length + ad.length < 17592186044416
          ·rw [if_pos c15] at H
           have LMc15 := am_ c15
           clear c15
           obtain ⟨aX, hy367⟩ : ∃ y_ : List Int, y_ = (ah ++ ad) := ⟨_, rfl⟩
           replace H : (some aX) = some r := by first | (rw [hy367]; with_reducible exact H) | (have H2_ := (Option.bind_some _ _).symm.trans H; rw [hy367]; with_reducible exact H2_) | (have H2_ := (Option.bind_some _ _).symm.trans H; with_reducible exact H2_) | with_reducible exact H | (rw [hy367]; exact H) | exact H
           have aN := am_ hy367
           clear hy367
           obtain rfl := Option.some.inj H
           simp only [Option.some.injEq, Prod.mk.injEq] at H
           obtain ⟨rfl⟩ := H
           obtain ⟨bh, am, aY⟩ := Kd.R_slice ab.out
           subst aY
           have p348 : 0 ≤ (aa : Int) := of_decide_eq_true ah_
           have q348 : aa < (l0.length : Int) := of_decide_eq_true ah_
           obtain ⟨af, e348, av⟩ := Kd.at_int (Kd.R_reads' ab.out).2.2 aa p348 q348
           cases e348
           replace p348 := eq_true p348
           replace q348 := eq_true q348
           have p349 : 0 ≤ (aa : Int) := of_decide_eq_true ah_
           have q349 : aa < (l0.length : Int) := of_decide_eq_true ah_
           obtain ⟨aw, e349, aJ⟩ := Kd.at_int (Kd.R_reads' ab.out).2.2 aa p349 q349
           obtain rfl : af = aw := (by injection e349)
           replace p349 := eq_true p349
           replace q349 := eq_true q349
           go_wp2_with (first | ((with_reducible refine gate_dst (N := 34) rfl ?_); refine Kd.R_lit (Kd.int .i64) _ 3 ?hg (N := 34) ?hd (xs := ([] : List Int)) (inner := []) (ok := fun _ => True) (okp := fun _ => True) ?hr ?hp (fun _ hk => hk) trivial (Below.refl _ _) (Nat.le_refl _) (by simp) ?_; (case hd => rfl); (case hg => rfl); (case hr => first | (go_simp; done) | (go_simp; rfl)); (case hp => exact (Reps.none _ _)); intro aZ w17 ho18 hb hg_ hnew_; clear hg_ hnew_; (first | rw [← aH.out] at ho18 | (simp only [Int.reduceToNat] at ho18; rw [← aH.out] at ho18)); have n0_ := am_ (Kd.R_elder' (rr_ ab.out) (Kd.R_base ho18) hb); have n1_ := am_ (Kd.R_lower (Kd.R_new' (Kd.R_newM (M := fun k_ => (P0_ k_ ∨ w.heap.size ≤ k_)) ho18 (by first | exact HK.out.1 | exact (show Kept w _ (fun k_ => P0_ k_) from by exact zp25_0_ HK.out).1) (fun k_ h_ => .inr h_)) (Kd.R_lt (rr_ ab.out))) (below_size (b0_ HB.out))); have n2_ := am_ (Kept.below (S := (fun k_ => P0_ k_)) (zp25_0_ HK.out) hb); have n3_ := am_ (below_step (b0_ HB.out) hb); clear ab; clear HK; clear HB; have ab := n0_; have ay := n1_; have HK := n2_; have HB := n3_; clear n0_ n1_ n2_ n3_; clear hb ho18; have q19 : (aa : Int) ≤ ((l0.length : Int) : Int) := of_decide_eq_true ah_; obtain ⟨i019, hi019, _, hsz19, _⟩ := info_parts info3; have hroom19 : l0.length ≤ am := (Kd.R_reads' ab.out).2.1; have hC19 : Kd.C (Kd.int .i64) _ (some af) l0.length l0 := (Kd.R_reads' ab.out).2.2; have hcut19 := cut_to (P := Try.prog) 67 3 .i64 Try.underlying67 hi019 (some af) l0.length am aa (of_decide_eq_true ah_) q19 hroom19; have hr19 := Kd.C_take (m := (aa : Int).toNat) hC19 (by omega); have hy19 : ag.length = (aa : Int).toNat := (by rw [ar.out, List.length_take]; omega); rw [← ar.out] at hr19; rw [← hy19] at hcut19; have HR356 := am_ hr19; have HC356 := am_ (show ag.length ≤ am from by omega); clear hr19 hC19 hroom19 hi019 hsz19; have KY19 := am_ hy19; clear hy19; have KL19 := am_ (show (aa : Int).toNat ≤ l0.length from by omega); replace q19 := eq_true q19) | ((with_reducible refine gate_builtin (b := .append) (xs := #[.tmp 34, .tmp 37]) rfl ?_); at_builtin; refine Kd.R_append_rows (Kd.int .i64) (w0 := w0) w0.heap.size rfl (.tmp 34) (.tmp 37) 67 3 (.int .i64 0) 8 rfl Try.underlying67 info3 rfl (by decide) (by omega) aZ ap ag _ _ _ (fun k_ => (P0_ k_ ∨ w.heap.size ≤ k_) ∧ some k_ ≠ (.slice (some af) l0.length am : Value).ownBlock) (fun _ => False) rfl rfl ?aO ?aR (fun _ _ h => h) (fun _ h => h.elim) ?aF ?aB ?aS ?aL ?_; (case aR => exact rc_ (by repeat (first | (with_reducible exact HR356.out) | (with_reducible refine Kd.C_alloc ?_ _) | (with_reducible refine Kd.C_drewN ?_ _) | (with_reducible refine Kd.C_drew ?_) | exact HR356.out))); (case aB => exact (b0_ HB.out)); (case aF => exact (fun k_ hk => ⟨(.inr (Nat.le_trans (by first | exact HK.out.1 | exact (show Kept w _ (fun k_ => P0_ k_) from by exact zp25_0_ HK.out).1) hk)), Kd.fresh' (Kd.R_lt (rr_ ab.out)) k_ hk⟩)); (case aO => exact (by refine rr_ ?_; exact Kd.R_mono ay.out (fun _ hk => ⟨hk.1.1, hk.2⟩))); (case aS => exact (below_size (b0_ HB.out))); (case aL => have := LMc11.out; omega); intro ba w20 ho hb hg hat; rw [← aK.out] at ho; have n0_ := am_ (Kd.R_after (ok := (fun k_ => (P0_ k_ ∨ w.heap.size ≤ k_))) (rr_ ab.out) hg hat); have n1_ := am_ (hb); have n2_ := am_ (Kept.of_grown (S := (fun k_ => P0_ k_)) hg (zp25_0_ HK.out) (fun k_ e_ => (ay.out.1 k_ e_).1.1)); have n3_ := am_ ((show Kd.C (Kd.int .i64) w20 (some af) ag.length ag from by rw [ar.out]; exact Kd.C_take (m := (aa : Int).toNat) ((Kd.R_reads' (Kd.R_after (ok := (fun k_ => (P0_ k_ ∨ w.heap.size ≤ k_))) (rr_ ab.out) hg hat)).2.2) KL19.out)); have n4_ := am_ (ho); clear ab; clear HB; clear HK; clear HR356; clear ay; have ab := n0_; have HB := n1_; have HK := n2_; have HR356 := n3_; have az := n4_; clear n0_ n1_ n2_ n3_ n4_; clear ho hb hg hat) | ((with_reducible refine gate_builtin (b := .append) (xs := #[.tmp 39, .tmp 41]) rfl ?_); at_builtin; refine Kd.R_append (Kd.int .i64) (w0 := w0) w0.heap.size rfl (.tmp 39) (.tmp 41) 67 3 (.int .i64 0) 8 rfl Try.underlying67 info3 rfl (by decide) (by omega) ba ak a1 [.int .i64 a1] (fun k_ => (P0_ k_ ∨ w.heap.size ≤ k_) ∧ some k_ ≠ (.slice (some af) l0.length am : Value).ownBlock) (fun _ => False) rfl rfl ?aP (fun _ hk => hk.elim) ?aF ?aO ?aB ?aS ?aL ?_; (case aP => exact rfl); (case aB => exact (b0_ HB.out)); (case aF => exact (fun k_ hk => ⟨(.inr (Nat.le_trans (by first | exact HK.out.1 | exact (show Kept w _ (fun k_ => P0_ k_) from by exact zp25_0_ HK.out).1) hk)), Kd.fresh' (Kd.R_lt (rr_ ab.out)) k_ hk⟩)); (case aO => exact (rr_ az.out)); (case aS => exact (below_size (b0_ HB.out))); (case aL => have := LMc12.out; omega); intro bb w21 ho hb hg hat; rw [← aM.out] at ho; have n0_ := am_ (Kd.R_after (ok := (fun k_ => (P0_ k_ ∨ w.heap.size ≤ k_))) (rr_ ab.out) hg hat); have n1_ := am_ (hb); have n2_ := am_ (Kept.of_grown (S := (fun k_ => P0_ k_)) hg (zp25_0_ HK.out) (fun k_ e_ => (az.out.1 k_ e_).1)); have n3_ := am_ ((show Kd.C (Kd.int .i64) w21 (some af) ag.length ag from by rw [ar.out]; exact Kd.C_take (m := (aa : Int).toNat) ((Kd.R_reads' (Kd.R_after (ok := (fun k_ => (P0_ k_ ∨ w.heap.size ≤ k_))) (rr_ ab.out) hg hat)).2.2) KL19.out)); have n4_ := am_ (ho); clear ab; clear HB; clear HK; clear HR356; clear az; have ab := n0_; have HB := n1_; have HK := n2_; have HR356 := n3_; have aA := n4_; clear n0_ n1_ n2_ n3_ n4_; clear ho hb hg hat; have q22 : (aa : Int) ≤ ((l0.length : Int) : Int) := of_decide_eq_true ah_; obtain ⟨i022, hi022, _, hsz22, _⟩ := info_parts info3; have hroom22 : l0.length ≤ am := (Kd.R_reads' ab.out).2.1; have hC22 : Kd.C (Kd.int .i64) _ (some af) l0.length l0 := (Kd.R_reads' ab.out).2.2; have q022 : (0 : Int) ≤ (aa : Int) := of_decide_eq_true ah_; have hcut22 := cut_from (P := Try.prog) 67 3 .i64 Try.underlying67 hi022 1 hsz22 (some af) l0.length am aa q022 q22; have hr22 := Kd.C_drop (m := (aa : Int).toNat) (c := am) hC22 (by omega) hroom22; obtain ⟨A22, hA22⟩ : ∃ A1, A1 = (if am = (aa : Int).toNat then (some af) else ((some af) : Option Addr).map (·.add ((aa : Int).toNat * 1))) := ⟨_, rfl⟩; obtain ⟨c22, hc22⟩ : ∃ c1, c1 = am - (aa : Int).toNat := ⟨_, rfl⟩; have hy22 : ad.length = l0.length - (aa : Int).toNat := (by rw [ax.out, List.length_drop] <;> omega); rw [show (l0).drop (aa : Int).toNat = ad from ax.out.symm] at hr22; replace hr22 : Kd.C (Kd.int .i64) _ A22 ad.length ad := (by rw [hA22]; exact hr22); rw [← hy22, ← hA22, ← hc22] at hcut22; have HR366 := am_ hr22; have HC366 := am_ (show ad.length ≤ c22 from by rw [hy22, hc22]; exact Nat.sub_le_sub_right hroom22 _); clear hr22 hC22 hroom22 hi022 hsz22 hc22; have KY22 := am_ hy22; have KA22 := am_ hA22; clear hy22 hA22; have KL22 := am_ (show (aa : Int).toNat ≤ l0.length from by omega); replace q22 := eq_true q22) | ((with_reducible refine gate_builtin (b := .append) (xs := #[.tmp 43, .tmp 46]) rfl ?_); at_builtin; refine Kd.R_append_rows (Kd.int .i64) (w0 := w0) w0.heap.size rfl (.tmp 43) (.tmp 46) 67 3 (.int .i64 0) 8 rfl Try.underlying67 info3 rfl (by decide) (by omega) bb ah ad _ _ _ (fun k_ => (P0_ k_ ∨ w.heap.size ≤ k_) ∧ some k_ ≠ (.slice (some af) l0.length am : Value).ownBlock) (fun _ => False) rfl rfl ?aO ?aR (fun _ _ h => h) (fun _ h => h.elim) ?aF ?aB ?aS ?aL ?_; (case aR => exact rc_ (by repeat (first | (with_reducible exact HR366.out) | (with_reducible refine Kd.C_alloc ?_ _) | (with_reducible refine Kd.C_drewN ?_ _) | (with_reducible refine Kd.C_drew ?_) | exact HR366.out))); (case aB => exact (b0_ HB.out)); (case aF => exact (fun k_ hk => ⟨(.inr (Nat.le_trans (by first | exact HK.out.1 | exact (show Kept w _ (fun k_ => P0_ k_) from by exact zp25_0_ HK.out).1) hk)), Kd.fresh' (Kd.R_lt (rr_ ab.out)) k_ hk⟩)); (case aO => exact (rr_ aA.out)); (case aS => exact (below_size (b0_ HB.out))); (case aL => have := LMc15.out; omega); intro bi w23 ho hb hg hat; rw [← aN.out] at ho; have n0_ := am_ (Kd.R_after (ok := (fun k_ => (P0_ k_ ∨ w.heap.size ≤ k_))) (rr_ ab.out) hg hat); have n1_ := am_ (hb); have n2_ := am_ (Kept.of_grown (S := (fun k_ => P0_ k_)) hg (zp25_0_ HK.out) (fun k_ e_ => (aA.out.1 k_ e_).1)); have n3_ := am_ ((show Kd.C (Kd.int .i64) w23 (some af) ag.length ag from by rw [ar.out]; exact Kd.C_take (m := (aa : Int).toNat) ((Kd.R_reads' (Kd.R_after (ok := (fun k_ => (P0_ k_ ∨ w.heap.size ≤ k_))) (rr_ ab.out) hg hat)).2.2) KL19.out)); have n4_ := am_ ((show Kd.C (Kd.int .i64) w23 A22 ad.length ad from by rw [ax.out, KA22.out]; exact Kd.C_drop (m := (aa : Int).toNat) (c := am) ((Kd.R_reads' (Kd.R_after (ok := (fun k_ => (P0_ k_ ∨ w.heap.size ≤ k_))) (rr_ ab.out) hg hat)).2.2) KL22.out ((Kd.R_reads' (Kd.R_after (ok := (fun k_ => (P0_ k_ ∨ w.heap.size ≤ k_))) (rr_ ab.out) hg hat)).2.1))); have n5_ := am_ (ho); clear ab; clear HB; clear HK; clear HR356; clear HR366; clear aA; have ab := n0_; have HB := n1_; have HK := n2_; have HR356 := n3_; have HR366 := n4_; have aQ := n5_; clear n0_ n1_ n2_ n3_ n4_ n5_; clear ho hb hg hat))
           go_ret
           exact ⟨_, by first | rfl | (simp [errW_none, errW_some] <;> rfl) | (simp [*, errW_none, errW_some] <;> rfl), by refine rr_ ?_; exact Kd.R_mono aQ.out (fun _ hk => hk.1), by exact zp25_1_ HB.out, by exact zp25_0_ HK.out⟩
          ·rw [if_neg c15] at H
           exact absurd H (by simp)
         ·rw [if_neg c12] at H
          exact absurd H (by simp)
        ·rw [if_neg c11] at H
         exact absurd H (by simp)
       ·rw [if_neg c10] at H
        exact absurd H (by simp)
    ·rw [if_neg c4] at H
     exact absurd H (by simp)
   ·rw [if_neg c3] at H
    have c3b0 : decide (aa < (l0.length : Int)) = false := decide_eq_false c3
    clear c3
    obtain ⟨aq, hy370⟩ : ∃ y_ : List Int, y_ = (([] : List Int)) := ⟨_, rfl⟩
    replace H : (if 0 ≤ aa then (if aa ≤ (l0.length : Int) then ((some (l0.take (aa : Int).toNat : List Int)).bind fun ai => (if aq.length + ai.length < 17592186044416 then ((some (aq ++ ai : List Int)).bind fun al => (if al.length < 17592186044416 then ((some (al ++ [a1] : List Int)).bind fun aj => ((some (l0.drop (aa : Int).toNat : List Int)).bind fun ae => (if aj.length + ae.length < 17592186044416 then (some (aj ++ ae)) else (none)))) else (none))) else (none))) else (none)) else (none)) = some r := by first | (rw [hy370]; with_reducible exact H) | (have H2_ := (Option.bind_some _ _).symm.trans H; rw [hy370]; with_reducible exact H2_) | (have H2_ := (Option.bind_some _ _).symm.trans H; with_reducible exact H2_) | with_reducible exact H | (rw [hy370]; exact H) | exact H
    have aI := am_ hy370
    clear hy370
    by_cases c24 : 0 ≤ aa
    ·rw [if_pos c24] at H
     have c24b0 := eq_true c24
     have c24b1 : decide (0 ≤ aa) = true := decide_eq_true c24
     clear c24
     by_cases c25 : aa ≤ (l0.length : Int)
     ·rw [if_pos c25] at H
      have c25b0 := eq_true c25
      have c25b1 : decide (aa ≤ (l0.length : Int)) = true := decide_eq_true c25
      clear c25
      obtain ⟨ai, hy373⟩ : ∃ y_ : List Int, y_ = (l0.take (aa : Int).toNat) := ⟨_, rfl⟩
      replace H : (if aq.length + ai.length < 17592186044416 then ((some (aq ++ ai : List Int)).bind fun al => (if al.length < 17592186044416 then ((some (al ++ [a1] : List Int)).bind fun aj => ((some (l0.drop (aa : Int).toNat : List Int)).bind fun ae => (if aj.length + ae.length < 17592186044416 then (some (aj ++ ae)) else (none)))) else (none))) else (none)) = some r := by first | (rw [hy373]; with_reducible exact H) | (have H2_ := (Option.bind_some _ _).symm.trans H; rw [hy373]; with_reducible exact H2_) | (have H2_ := (Option.bind_some _ _).symm.trans H; with_reducible exact H2_) | with_reducible exact H | (rw [hy373]; exact H) | exact H
      have au := am_ hy373
      clear hy373
      by_cases c26 : aq.length + ai.length < 17592186044416
      ·rw [if_pos c26] at H
       have LMc26 := am_ c26
       clear c26
       obtain ⟨al, hy377⟩ : ∃ y_ : List Int, y_ = (aq ++ ai) := ⟨_, rfl⟩
       replace H : (if al.length < 17592186044416 then ((some (al ++ [a1] : List Int)).bind fun aj => ((some (l0.drop (aa : Int).toNat : List Int)).bind fun ae => (if aj.length + ae.length < 17592186044416 then (some (aj ++ ae)) else (none)))) else (none)) = some r := by first | (rw [hy377]; with_reducible exact H) | (have H2_ := (Option.bind_some _ _).symm.trans H; rw [hy377]; with_reducible exact H2_) | (have H2_ := (Option.bind_some _ _).symm.trans H; with_reducible exact H2_) | with_reducible exact H | (rw [hy377]; exact H) | exact H
       have aT := am_ hy377
       clear hy377
       by_cases c27 : al.length < 17592186044416
       ·rw [if_pos c27] at H
        have LMc27 := am_ c27
        clear c27
        obtain ⟨aj, hy380⟩ : ∃ y_ : List Int, y_ = (al ++ [a1]) := ⟨_, rfl⟩
        replace H : ((some (l0.drop (aa : Int).toNat : List Int)).bind fun ae => (if aj.length + ae.length < 17592186044416 then (some (aj ++ ae)) else (none))) = some r := by first | (rw [hy380]; with_reducible exact H) | (have H2_ := (Option.bind_some _ _).symm.trans H; rw [hy380]; with_reducible exact H2_) | (have H2_ := (Option.bind_some _ _).symm.trans H; with_reducible exact H2_) | with_reducible exact H | (rw [hy380]; exact H) | exact H
        have aU := am_ hy380
        clear hy380
        have c28b0 := eq_true (of_decide_eq_true ah_ : 0 ≤ aa)
        have c29b0 := eq_true (of_decide_eq_true ah_ : aa ≤ (l0.length : Int))
        obtain ⟨ae, hy383⟩ : ∃ y_ : List Int, y_ = (l0.drop (aa : Int).toNat) := ⟨_, rfl⟩
        replace H : (if aj.length + ae.length < 17592186044416 then (some (aj ++ ae)) else (none)) = some r := by first | (rw [hy383]; with_reducible exact H) | (have H2_ := (Option.bind_some _ _).symm.trans H; rw [hy383]; with_reducible exact H2_) | (have H2_ := (Option.bind_some _ _).symm.trans H; with_reducible exact H2_) | with_reducible exact H | (rw [hy383]; exact H) | exact H
        have aC := am_ hy383
        clear hy383
        by_cases c30 : aj.length + ae.length < 17592186044416
        ·rw [if_pos c30] at H
         have LMc30 := am_ c30
         clear c30
         obtain ⟨bc, hy387⟩ : ∃ y_ : List Int, y_ = (aj ++ ae) := ⟨_, rfl⟩
         replace H : (some bc) = some r := by first | (rw [hy387]; with_reducible exact H) | (have H2_ := (Option.bind_some _ _).symm.trans H; rw [hy387]; with_reducible exact H2_) | (have H2_ := (Option.bind_some _ _).symm.trans H; with_reducible exact H2_) | with_reducible exact H | (rw [hy387]; exact H) | exact H
         have aV := am_ hy387
         clear hy387
         obtain rfl := Option.some.inj H
         simp only [Option.some.injEq, Prod.mk.injEq] at H
         obtain ⟨rfl⟩ := H
         obtain ⟨an, ao, bd⟩ := Kd.R_slice ab.out
         subst bd
         go_wp2_with (first | ((with_reducible refine gate_dst (N := 34) rfl ?_); refine Kd.R_lit (Kd.int .i64) _ 3 ?hg (N := 34) ?hd (xs := ([] : List Int)) (inner := []) (ok := fun _ => True) (okp := fun _ => True) ?hr ?hp (fun _ hk => hk) trivial (Below.refl _ _) (Nat.le_refl _) (by simp) ?_; (case hd => rfl); (case hg => rfl); (case hr => first | (go_simp; done) | (go_simp; rfl)); (case hp => exact (Reps.none _ _)); intro be w32 ho33 hb hg_ hnew_; clear hg_ hnew_; (first | rw [← aI.out] at ho33 | (simp only [Int.reduceToNat] at ho33; rw [← aI.out] at ho33)); have n0_ := am_ (Kd.R_elder' (rr_ ab.out) (Kd.R_base ho33) hb); have n1_ := am_ (Kd.R_lower (Kd.R_new' (Kd.R_newM (M := fun k_ => (P0_ k_ ∨ w.heap.size ≤ k_)) ho33 (by first | exact HK.out.1 | exact (show Kept w _ (fun k_ => P0_ k_) from by exact zp25_0_ HK.out).1) (fun k_ h_ => .inr h_)) (Kd.R_lt (rr_ ab.out))) (below_size (b0_ HB.out))); have n2_ := am_ (Kept.below (S := (fun k_ => P0_ k_)) (zp25_0_ HK.out) hb); have n3_ := am_ (below_step (b0_ HB.out) hb); clear ab; clear HK; clear HB; have ab := n0_; have aD := n1_; have HK := n2_; have HB := n3_; clear n0_ n1_ n2_ n3_; clear hb ho33; have q34 : (aa : Int) ≤ ((l0.length : Int) : Int) := of_decide_eq_true ah_; obtain ⟨i034, hi034, _, hsz34, _⟩ := info_parts info3; have hroom34 : l0.length ≤ ao := (Kd.R_reads' ab.out).2.1; have hC34 : Kd.C (Kd.int .i64) _ an l0.length l0 := (Kd.R_reads' ab.out).2.2; have hcut34 := cut_to (P := Try.prog) 67 3 .i64 Try.underlying67 hi034 an l0.length ao aa (of_decide_eq_true ah_) q34 hroom34; have hr34 := Kd.C_take (m := (aa : Int).toNat) hC34 (by omega); have hy34 : ai.length = (aa : Int).toNat := (by rw [au.out, List.length_take]; omega); rw [← au.out] at hr34; rw [← hy34] at hcut34; have HR376 := am_ hr34; have HC376 := am_ (show ai.length ≤ ao from by omega); clear hr34 hC34 hroom34 hi034 hsz34; have KY34 := am_ hy34; clear hy34; have KL34 := am_ (show (aa : Int).toNat ≤ l0.length from by omega); replace q34 := eq_true q34) | ((with_reducible refine gate_builtin (b := .append) (xs := #[.tmp 34, .tmp 37]) rfl ?_); at_builtin; refine Kd.R_append_rows (Kd.int .i64) (w0 := w0) w0.heap.size rfl (.tmp 34) (.tmp 37) 67 3 (.int .i64 0) 8 rfl Try.underlying67 info3 rfl (by decide) (by omega) be aq ai _ _ _ (fun k_ => (P0_ k_ ∨ w.heap.size ≤ k_) ∧ some k_ ≠ (.slice an l0.length ao : Value).ownBlock) (fun _ => False) rfl rfl ?aO ?aR (fun _ _ h => h) (fun _ h => h.elim) ?aF ?aB ?aS ?aL ?_; (case aR => exact rc_ (by repeat (first | (with_reducible exact HR376.out) | (with_reducible refine Kd.C_alloc ?_ _) | (with_reducible refine Kd.C_drewN ?_ _) | (with_reducible refine Kd.C_drew ?_) | exact HR376.out))); (case aB => exact (b0_ HB.out)); (case aF => exact (fun k_ hk => ⟨(.inr (Nat.le_trans (by first | exact HK.out.1 | exact (show Kept w _ (fun k_ => P0_ k_) from by exact zp25_0_ HK.out).1) hk)), Kd.fresh' (Kd.R_lt (rr_ ab.out)) k_ hk⟩)); (case aO => exact (by refine rr_ ?_; exact Kd.R_mono aD.out (fun _ hk => ⟨hk.1.1, hk.2⟩))); (case aS => exact (below_size (b0_ HB.out))); (case aL => have := LMc26.out; omega); intro bf w35 ho hb hg hat; rw [← aT.out] at ho; have n0_ := am_ (Kd.R_after (ok := (fun k_ => (P0_ k_ ∨ w.heap.size ≤ k_))) (rr_ ab.out) hg hat); have n1_ := am_ (hb); have n2_ := am_ (Kept.of_grown (S := (fun k_ => P0_ k_)) hg (zp25_0_ HK.out) (fun k_ e_ => (aD.out.1 k_ e_).1.1)); have n3_ := am_ ((show Kd.C (Kd.int .i64) w35 an ai.length ai from by rw [au.out]; exact Kd.C_take (m := (aa : Int).toNat) ((Kd.R_reads' (Kd.R_after (ok := (fun k_ => (P0_ k_ ∨ w.heap.size ≤ k_))) (rr_ ab.out) hg hat)).2.2) KL34.out)); have n4_ := am_ (ho); clear ab; clear HB; clear HK; clear HR376; clear aD; have ab := n0_; have HB := n1_; have HK := n2_; have HR376 := n3_; have aE := n4_; clear n0_ n1_ n2_ n3_ n4_; clear ho hb hg hat) | ((with_reducible refine gate_builtin (b := .append) (xs := #[.tmp 39, .tmp 41]) rfl ?_); at_builtin; refine Kd.R_append (Kd.int .i64) (w0 := w0) w0.heap.size rfl (.tmp 39) (.tmp 41) 67 3 (.int .i64 0) 8 rfl Try.underlying67 info3 rfl (by decide) (by omega) bf al a1 [.int .i64 a1] (fun k_ => (P0_ k_ ∨ w.heap.size ≤ k_) ∧ some k_ ≠ (.slice an l0.length ao : Value).ownBlock) (fun _ => False) rfl rfl ?aP (fun _ hk => hk.elim) ?aF ?aO ?aB ?aS ?aL ?_; (case aP => exact rfl); (case aB => exact (b0_ HB.out)); (case aF => exact (fun k_ hk => ⟨(.inr (Nat.le_trans (by first | exact HK.out.1 | exact (show Kept w _ (fun k_ => P0_ k_) from by exact zp25_0_ HK.out).1) hk)), Kd.fresh' (Kd.R_lt (rr_ ab.out)) k_ hk⟩)); (case aO => exact (rr_ aE.out)); (case aS => exact (below_size (b0_ HB.out))); (case aL => have := LMc27.out; omega); intro bg w36 ho hb hg hat; rw [← aU.out] at ho; have n0_ := am_ (Kd.R_after (ok := (fun k_ => (P0_ k_ ∨ w.heap.size ≤ k_))) (rr_ ab.out) hg hat); have n1_ := am_ (hb); have n2_ := am_ (Kept.of_grown (S := (fun k_ => P0_ k_)) hg (zp25_0_ HK.out) (fun k_ e_ => (aE.out.1 k_ e_).1)); have n3_ := am_ ((show Kd.C (Kd.int .i64) w36 an ai.length ai from by rw [au.out]; exact Kd.C_take (m := (aa : Int).toNat) ((Kd.R_reads' (Kd.R_after (ok := (fun k_ => (P0_ k_ ∨ w.heap.size ≤ k_))) (rr_ ab.out) hg hat)).2.2) KL34.out)); have n4_ := am_ (ho); clear ab; clear HB; clear HK; clear HR376; clear aE; have ab := n0_; have HB := n1_; have HK := n2_; have HR376 := n3_; have aG := n4_; clear n0_ n1_ n2_ n3_ n4_; clear ho hb hg hat; have q37 : (aa : Int) ≤ ((l0.length : Int) : Int) := of_decide_eq_true ah_; obtain ⟨i037, hi037, _, hsz37, _⟩ := info_parts info3; have hroom37 : l0.length ≤ ao := (Kd.R_reads' ab.out).2.1; have hC37 : Kd.C (Kd.int .i64) _ an l0.length l0 := (Kd.R_reads' ab.out).2.2; have q037 : (0 : Int) ≤ (aa : Int) := of_decide_eq_true ah_; have hcut37 := cut_from (P := Try.prog) 67 3 .i64 Try.underlying67 hi037 1 hsz37 an l0.length ao aa q037 q37; have hr37 := Kd.C_drop (m := (aa : Int).toNat) (c := ao) hC37 (by omega) hroom37; obtain ⟨A37, hA37⟩ : ∃ A1, A1 = (if ao = (aa : Int).toNat then an else (an : Option Addr).map (·.add ((aa : Int).toNat * 1))) := ⟨_, rfl⟩; obtain ⟨c37, hc37⟩ : ∃ c1, c1 = ao - (aa : Int).toNat := ⟨_, rfl⟩; have hy37 : ae.length = l0.length - (aa : Int).toNat := (by rw [aC.out, List.length_drop] <;> omega); rw [show (l0).drop (aa : Int).toNat = ae from aC.out.symm] at hr37; replace hr37 : Kd.C (Kd.int .i64) _ A37 ae.length ae := (by rw [hA37]; exact hr37); rw [← hy37, ← hA37, ← hc37] at hcut37; have HR386 := am_ hr37; have HC386 := am_ (show ae.length ≤ c37 from by rw [hy37, hc37]; exact Nat.sub_le_sub_right hroom37 _); clear hr37 hC37 hroom37 hi037 hsz37 hc37; have KY37 := am_ hy37; have KA37 := am_ hA37; clear hy37 hA37; have KL37 := am_ (show (aa : Int).toNat ≤ l0.length from by omega); replace q37 := eq_true q37) | ((with_reducible refine gate_builtin (b := .append) (xs := #[.tmp 43, .tmp 46]) rfl ?_); at_builtin; refine Kd.R_append_rows (Kd.int .i64) (w0 := w0) w0.heap.size rfl (.tmp 43) (.tmp 46) 67 3 (.int .i64 0) 8 rfl Try.underlying67 info3 rfl (by decide) (by omega) bg aj ae _ _ _ (fun k_ => (P0_ k_ ∨ w.heap.size ≤ k_) ∧ some k_ ≠ (.slice an l0.length ao : Value).ownBlock) (fun _ => False) rfl rfl ?aO ?aR (fun _ _ h => h) (fun _ h => h.elim) ?aF ?aB ?aS ?aL ?_; (case aR => exact rc_ (by repeat (first | (with_reducible exact HR386.out) | (with_reducible refine Kd.C_alloc ?_ _) | (with_reducible refine Kd.C_drewN ?_ _) | (with_reducible refine Kd.C_drew ?_) | exact HR386.out))); (case aB => exact (b0_ HB.out)); (case aF => exact (fun k_ hk => ⟨(.inr (Nat.le_trans (by first | exact HK.out.1 | exact (show Kept w _ (fun k_ => P0_ k_) from by exact zp25_0_ HK.out).1) hk)), Kd.fresh' (Kd.R_lt (rr_ ab.out)) k_ hk⟩)); (case aO => exact (rr_ aG.out)); (case aS => exact (below_size (b0_ HB.out))); (case aL => have := LMc30.out; omega); intro bj w38 ho hb hg hat; rw [← aV.out] at ho; have n0_ := am_ (Kd.R_after (ok := (fun k_ => (P0_ k_ ∨ w.heap.size ≤ k_))) (rr_ ab.out) hg hat); have n1_ := am_ (hb); have n2_ := am_ (Kept.of_grown (S := (fun k_ => P0_ k_)) hg (zp25_0_ HK.out) (fun k_ e_ => (aG.out.1 k_ e_).1)); have n3_ := am_ ((show Kd.C (Kd.int .i64) w38 an ai.length ai from by rw [au.out]; exact Kd.C_take (m := (aa : Int).toNat) ((Kd.R_reads' (Kd.R_after (ok := (fun k_ => (P0_ k_ ∨ w.heap.size ≤ k_))) (rr_ ab.out) hg hat)).2.2) KL34.out)); have n4_ := am_ ((show Kd.C (Kd.int .i64) w38 A37 ae.length ae from by rw [aC.out, KA37.out]; exact Kd.C_drop (m := (aa : Int).toNat) (c := ao) ((Kd.R_reads' (Kd.R_after (ok := (fun k_ => (P0_ k_ ∨ w.heap.size ≤ k_))) (rr_ ab.out) hg hat)).2.2) KL37.out ((Kd.R_reads' (Kd.R_after (ok := (fun k_ => (P0_ k_ ∨ w.heap.size ≤ k_))) (rr_ ab.out) hg hat)).2.1))); have n5_ := am_ (ho); clear ab; clear HB; clear HK; clear HR376; clear HR386; clear aG; have ab := n0_; have HB := n1_; have HK := n2_; have HR376 := n3_; have HR386 := n4_; have aW := n5_; clear n0_ n1_ n2_ n3_ n4_ n5_; clear ho hb hg hat))
         go_ret
         exact ⟨_, by first | rfl | (simp [errW_none, errW_some] <;> rfl) | (simp [*, errW_none, errW_some] <;> rfl), by refine rr_ ?_; exact Kd.R_mono aW.out (fun _ hk => hk.1), by exact zp25_1_ HB.out, by exact zp25_0_ HK.out⟩
        ·rw [if_neg c30] at H
         exact absurd H (by simp)
       ·rw [if_neg c27] at H
        exact absurd H (by simp)
      ·rw [if_neg c26] at H
       exact absurd H (by simp)
     ·rw [if_neg c25] at H
      exact absurd H (by simp)
    ·rw [if_neg c24] at H
     exact absurd H (by simp)
end Go.Proofs.Ytogamkblkoobkaa.P
end
section
namespace Go.Proofs.Ytogamkblkoobkaa.P
open Go.RowKit Go.Proofs.YtogamkblkoobkaaW.PrintWords Go.Proofs.YtogamkblkoobkaaW.PrintLast Go.Proofs.YtogamkblkoobkaaW.PrintMore
attribute [local go_sem] max2_int min2_int max_two min_two max_three min_three max_four min_four
set_option linter.unusedVariables false
set_option linter.unusedSimpArgs false
def spec_l6Move.l0 : Nat → List Int → Int → List Int → Int → List Bool → List (List Int) → Option (List Int)
  | 0, _, _, _, _, _, _ => none
  | k + 1, x1, x2, x7, x8, bj, aD => if x8 < (x1.length : Int) then (if 0 ≤ x8 then (if 0 ≤ (rd x1 x8) then (if (rd x1 x8) < (aD.length : Int) then (if 0 ≤ x2 then (if x2 < ((rd_L1 aD (rd x1 x8)).length : Int) then ((spec_l6Put.f k x7 (rd (rd_L1 aD (rd x1 x8)) x2)).bind fun aU => (spec_l6Move.l0 k x1 x2 aU (wrap64 (x8 + 1)) bj aD)) else (none)) else (none)) else (none)) else (none)) else (none)) else (some x7)
def spec_l6Move.f (k : Nat) (l0_0 : List Bool) (l0_1 : List (List Int)) (l1 : List Int) (a2 : Int) : Option (List Int) := spec_l6Move.l0 k l1 a2 (([] : List Int)) 0 l0_0 l0_1
theorem spec_l6Move.mono_l : ∀ k, (∀ y0 y1 y2 y3 y4 y5, LeO (spec_l6Move.l0 k y0 y1 y2 y3 y4 y5) (spec_l6Move.l0 (k + 1) y0 y1 y2 y3 y4 y5))
 | 0 => fun _ _ _ _ _ _ r h => by simp [spec_l6Move.l0] at h
 | k + 1 => by
  have ih0 := spec_l6Move.mono_l k
  ·intro y0 y1 y2 y3 y4 y5
   unfold spec_l6Move.l0
   repeat' first
   | (with_reducible exact ih0 _ _ _ _ _ _)
   | (with_reducible exact spec_l6Put.mono _ _ _)
   | (with_reducible exact LeO.refl _)
   | (with_reducible exact LeO.none _)
   | (with_reducible refine LeO.ite ?_ ?_)
   | (with_reducible refine LeO.bind ?_ (fun _ => ?_))
   | exact ih0 _ _ _ _ _ _
   | exact spec_l6Put.mono _ _ _
   | exact LeO.none _
   | refine LeO.ite ?_ ?_
   | refine LeO.bind ?_ (fun _ => ?_)
theorem spec_l6Move.mono : ∀ a0 a1 a2 a3 k, LeO (spec_l6Move.f k a0 a1 a2 a3) (spec_l6Move.f (k + 1) a0 a1 a2 a3) := by
 intro a0 a1 a2 a3 k
 have ih0 := spec_l6Move.mono_l k
 unfold spec_l6Move.f
 repeat' first
   | (with_reducible exact ih0 _ _ _ _ _ _)
   | (with_reducible exact spec_l6Put.mono _ _ _)
   | (with_reducible exact LeO.refl _)
   | (with_reducible exact LeO.none _)
   | (with_reducible refine LeO.ite ?_ ?_)
   | (with_reducible refine LeO.bind ?_ (fun _ => ?_))
   | exact ih0 _ _ _ _ _ _
   | exact spec_l6Put.mono _ _ _
   | exact LeO.none _
   | refine LeO.ite ?_ ?_
   | refine LeO.bind ?_ (fun _ => ?_)
def spec_l6Move.T5 : Bool × List (List Nat × List Nat) := (true, [([], []), ([], []), ([1], [1]), ([], []), ([], []), ([3, 4], [3, 4]), ([5], [5]), ([2, 6], [2, 6]), ([7], [7]), ([], []), ([8, 9], [8, 9]), ([10], [10]), ([0, 11], [0, 11]), ([12, 12, 0, 1, 2, 3, 4, 5, 6, 7, 8, 9, 10, 11, 12], [0, 12])])
def spec_l6Move.B5 : List Nat := [0, 0, 2, 0, 0, 24, 56, 126, 254, 0, 1022, 2046, 4095, 8191]
theorem spec_l6Move.tab5 : rtab .any (opsOf Try.f73 5) = spec_l6Move.T5 := by kernel_rfl
theorem spec_l6Move.bits5 : waitsOk spec_l6Move.T5.2 spec_l6Move.B5 = true := by kernel_rfl
theorem zp26_0_ {p q g1 : Prop} (h : p) (h1 : g1) (c : p → g1 → q := by intro h_ h1_; repeat (first | (with_reducible first | exact h_ | apply below_alloc | apply pw_below_drewN | apply below_drew1 | refine below_set ?_ h1_) | exact h_)) : q := c h h1
set_option maxHeartbeats 8000000 in
set_option maxRecDepth 100000 in
theorem spec_l6Move.calls (k : Nat) (A0_0 : Option Addr) (c0_0 : Nat) (l0_0 : List Bool) (A0_1 : Option Addr) (c0_1 : Nat) (l0_1 : List (List Int)) (A1 : Option Addr) (c1 : Nat) (l1 : List Int) (a2 : Int) (r : List Int) (w : World) (hr0_0 : Kd.C Kd.bool w A0_0 l0_0.length l0_0) (hc0_0 : l0_0.length ≤ c0_0) (hr0_1 : Kd.C (Kd.slice 3 (Kd.int .i64)) w A0_1 l0_1.length l0_1) (hc0_1 : l0_1.length ≤ c0_1) (hr1 : Kd.C (Kd.int .i64) w A1 l1.length l1) (hc1 : l1.length ≤ c1) (h : spec_l6Move.f k l0_0 l0_1 l1 a2 = some r) :
  Calls Try.prog 73 #[.agg #[.slice A0_0 l0_0.length c0_0, .slice A0_1 l0_1.length c0_1], .slice A1 l1.length c1, .int .i64 a2] w fun e w' => ∃ v0_ : Value, e = .returned (v0_) ∧ Kd.R (Kd.int .i64) 3 w' w.heap.size (fun _ => True) v0_ r ∧ Below w.heap.size w w' := by
 have hu27 := Try.underlying27
 have aY := am_ hr0_0
 have bA := am_ hc0_0
 clear hr0_0 hc0_0
 have bd := am_ hr0_1
 have bB := am_ hc0_1
 clear hr0_1 hc0_1
 have HR1 := am_ hr1
 have HC1 := am_ hc1
 clear hr1 hc1
 have HB := am_ (Below.refl w.heap.size w)
 have H : (spec_l6Move.l0 k l1 a2 (([] : List Int)) 0 l0_0 l0_1) = some r := h
 clear h
 obtain ⟨bw, hy391⟩ : ∃ y_ : List Int, y_ = (([] : List Int)) := ⟨_, rfl⟩
 replace H : (spec_l6Move.l0 k l1 a2 bw 0 l0_0 l0_1) = some r := by first | (rw [hy391]; with_reducible exact H) | (have H2_ := (Option.bind_some _ _).symm.trans H; rw [hy391]; with_reducible exact H2_) | (have H2_ := (Option.bind_some _ _).symm.trans H; with_reducible exact H2_) | with_reducible exact H | (rw [hy391]; exact H) | exact H
 have be := am_ hy391
 clear hy391
 have H' := am_ H
 clear H
 go_enter Try.func73, Try.ntmps73
 go_wp2_with (first | ((with_reducible refine gate_dst (N := 3) rfl ?_); refine box_event ?hg (N := 3) ?hd (cs := #[.slice A0_0 l0_0.length c0_0, .slice A0_1 l0_1.length c0_1]) (t := 27) ?hr ?_; (case hd => rfl); (case hg => rfl); (case hr => first | (go_simp; done) | (go_simp; rfl)); intro aP hg w4 hbox hb; replace ai := am_ (hbox); replace ca := am_ ((by rw [hg]; exact (below_size (b0_ HB.out)) : w.heap.size ≤ aP)); replace aE := am_ ((by rw [hg]; exact (below_size (b0_ HB.out)) : w.heap.size ≤ aP)); replace HB := am_ (below_step (b0_ HB.out) hb); clear hb hbox hg) | ((with_reducible refine gate_dst (N := 9) rfl ?_); refine Kd.R_lit (Kd.int .i64) _ 3 ?hg (N := 9) ?hd (xs := ([] : List Int)) (inner := []) (ok := fun _ => True) (okp := fun _ => True) ?hr ?hp (fun _ hk => hk) trivial (Below.refl _ _) (Nat.le_refl _) (by simp) ?_; (case hd => rfl); (case hg => rfl); (case hr => first | (go_simp; done) | (go_simp; rfl)); (case hp => exact (Reps.none _ _)); intro cb w5 ho6 hb hg_ hnew_; clear hg_ hnew_; (first | rw [← be.out] at ho6 | (simp only [Int.reduceToNat] at ho6; rw [← be.out] at ho6)); have n0_ := am_ (Kd.R_lower ho6 (below_size (b1_ HB.out aE.out))); have n1_ := am_ (blk_below (rb_ ai.out) hb); have n2_ := am_ (below_step (b1_ HB.out aE.out) hb); clear ai; clear HB; have bC := n0_; have ai := n1_; have HB := n2_; clear n0_ n1_ n2_; clear hb ho6))
 go_loopg [7, 8] k (fun kq v7 v8 w' => ∃ (aO : List Int) (ae : Int), v8 = .int .i64 ae ∧ Aside0 (spec_l6Move.l0 kq l1 a2 aO ae l0_0 l0_1 = some r) ∧ Aside0 (kq ≤ k) ∧ Aside0 (Kd.R (Kd.int .i64) 3 w' w.heap.size (fun _ => True) v7 aO) ∧ Aside0 (w'.heap[aP]? = some (.cells #[(.slice A0_0 l0_0.length c0_0), (.slice A0_1 l0_1.length c0_1)] 27 (0, 0))) ∧ Aside0 (Below w.heap.size w w'))
 case atStart => exact ⟨(bw), (0), (by first | rfl | (simp; done) | (simp [*]; done)), H', ⟨Nat.le_refl _⟩, ⟨by refine rr_ ?_; exact bC.out⟩, ⟨by refine rb_ ?_; exact ai.out⟩, ⟨by exact zp26_0_ HB.out aE.out⟩⟩
 case round =>
  clear H'
  try clear c1
  try clear p2
  obtain ⟨aO, ae, rfl, HA, HK1, aC, ai, HB⟩ := hrel
  cases gk with
  | zero => exact absurd HA.out (by simp [spec_l6Move.l0])
  | succ k1 =>
   have H := HA.out
   clear HA
   simp only [spec_l6Move.l0] at H
   by_cases c7 : ae < (l1.length : Int)
   ·rw [if_pos c7] at H
    have c7b0 : decide (ae < (l1.length : Int)) = true := decide_eq_true c7
    clear c7
    by_cases c8 : 0 ≤ ae
    ·rw [if_pos c8] at H
     have c8b0 : decide (0 ≤ ae) = true := decide_eq_true c8
     clear c8
     by_cases c9 : 0 ≤ (rd l1 ae)
     ·rw [if_pos c9] at H
      have c9b0 : decide (0 ≤ (rd l1 ae)) = true := decide_eq_true c9
      clear c9
      by_cases c10 : (rd l1 ae) < (l0_1.length : Int)
      ·rw [if_pos c10] at H
       have c10b0 : decide ((rd l1 ae) < (l0_1.length : Int)) = true := decide_eq_true c10
       clear c10
       by_cases c11 : 0 ≤ a2
       ·rw [if_pos c11] at H
        have c11b0 : decide (0 ≤ a2) = true := decide_eq_true c11
        clear c11
        by_cases c12 : a2 < ((rd_L1 l0_1 (rd l1 ae)).length : Int)
        ·rw [if_pos c12] at H
         have c12b0 : decide (a2 < ((rd_L1 l0_1 (rd l1 ae)).length : Int)) = true := decide_eq_true c12
         clear c12
         replace H := Option.bind_eq_some_iff.mp H
         obtain ⟨aU, bx, H⟩ := H
         replace H : (spec_l6Move.l0 k1 l1 a2 aU (wrap64 (ae + 1)) l0_0 l0_1) = some r := H
         have A13 := am_ bx
         clear bx
         have H' := am_ H
         clear H
         try go_wp2
         replace aC := am_ (Kd.R_drew aC.out)
         replace ai := am_ (blk_drew ai.out)
         replace HB := am_ (below_drew1 HB.out)
         have p394 : 0 ≤ (ae : Int) := of_decide_eq_true ah_
         have q394 : ae < (l1.length : Int) := of_decide_eq_true ah_
         obtain ⟨bD, e394, az⟩ := Kd.at_int HR1.out ae p394 q394
         have aF := az
         cases e394
         replace az := (HB.out.cell (World.block_lt_of_cell? w _ az)).trans az
         replace p394 := eq_true p394
         replace q394 := eq_true q394
         have p395 : 0 ≤ ((rd l1 ae) : Int) := of_decide_eq_true ah_
         have q395 : (rd l1 ae) < (l0_1.length : Int) := of_decide_eq_true ah_
         obtain ⟨bf, A395_0, c395_0, e395, aA, hl395_0, hi395_0⟩ := at_L1 bd.out (rd l1 ae) p395 q395
         have aG := aA
         cases e395
         replace aA := (HB.out.cell (World.block_lt_of_cell? w _ aA)).trans aA
         have aV := am_ hi395_0
         have bJ := am_ hl395_0
         clear hi395_0 hl395_0
         replace p395 := eq_true p395
         replace q395 := eq_true q395
         have p396 : 0 ≤ (a2 : Int) := of_decide_eq_true ah_
         have q396 : a2 < ((rd_L1 l0_1 (rd l1 ae)).length : Int) := of_decide_eq_true ah_
         obtain ⟨bg, e396, aB⟩ := Kd.at_int aV.out a2 p396 q396
         have aH := aB
         cases e396
         replace aB := (HB.out.cell (World.block_lt_of_cell? w _ aB)).trans aB
         replace p396 := eq_true p396
         replace q396 := eq_true q396
         obtain ⟨ba, bb, bz⟩ := Kd.R_slice aC.out
         (first | subst bz | (injection bz with f1_ f2_ f3_; have f4_ := f1_.symm; have f5_ := f3_.symm; clear f1_ f2_ f3_; subst f4_; subst f5_))
         refine start_ (n := 14) (S := fun w' => w'.cell? ⟨aP, 0, none⟩ = some (.slice A0_0 l0_0.length c0_0) ∧ w'.cell? ⟨aP, 1, none⟩ = some (.slice (some bf) l0_1.length c0_1) ∧ w'.cell? (bD.add (ae).toNat) = some (.int .i64 (rd l1 ae)) ∧ w'.cell? (bf.add ((rd l1 ae)).toNat) = some (.slice (some bg) (rd_L1 l0_1 (rd l1 ae)).length c395_0) ∧ w'.cell? (bg.add (a2).toNat) = some (.int .i64 (rd (rd_L1 l0_1 (rd l1 ae)) a2))) (ds := []) (bl 14 0) (by kernel_rfl) rfl rfl ⟨(blk_cell ai.out 0).trans rfl, (blk_cell ai.out 1).trans rfl, ((HB.out.cell (World.block_lt_of_cell? w _ aF)).trans aF), ((HB.out.cell (World.block_lt_of_cell? w _ aG)).trans aG), ((HB.out.cell (World.block_lt_of_cell? w _ aH)).trans aH)⟩ (fun hHeld => ?_); refine with_tabW spec_l6Move.tab5 spec_l6Move.bits5 (fun HT_ HW_ => ?_)
         generalize wr.drew = w14 at aC ai HB aV az aA aB hHeld ⊢
         refine pu_ 0 16 (bl 14 1) HT_ ?_
         refine pu_ 1 17 (bl 14 3) HT_ ?_
         refine pu_ 3 19 (bl 14 11) HT_ ?_
         refine pu_ 4 20 (bl 14 27) HT_ ?_
         refine pu_ 5 21 (bl 14 59) HT_ ?_
         refine pu_ 9 25 (bl 14 571) HT_ ?_
         refine tk_ 2 18 (bl 14 575) HT_ HW_ hHeld ?_
         refine tk_ 6 22 (bl 14 639) HT_ HW_ hHeld ?_
         refine pu_ 7 23 (bl 14 767) HT_ ?_
         refine tk_ 8 24 (bl 14 1023) HT_ HW_ hHeld ?_
         refine pu_ 10 26 (bl 14 2047) HT_ ?_
         refine tk_ 11 27 (bl 14 4095) HT_ HW_ hHeld ?_
         refine on_ 12 (some 28) (bl 14 8191) HT_ (fun K hK => ?_)
         refine gO_ Try.func74 #[.slice ba aO.length bb, .int .i64 (rd (rd_L1 l0_1 (rd l1 ae)) a2)] ?_
         with_reducible refine (spec_l6Put.calls k1 (fun k_ => some k_ = (.slice ba aO.length bb : Value).ownBlock) (.slice ba aO.length bb) aO (rd (rd_L1 l0_1 (rd l1 ae)) a2) aU w _ ?side1 ?side2 A13.out).mono ?_
         (case side1 => exact zp26_0_ HB.out aE.out)
         (case side2 => exact Kd.R_tight rfl aC.out)
         rintro e w16 ⟨cc, rfl, ho0, hb, hkp⟩
         refine ⟨_, rfl, ?_⟩
         replace ai := am_ (blk_kept (rb_ ai.out) hkp (fun hs_ => (fun e_ => (Kd.R_ne aC.out ai.out (by decide)) e_) hs_))
         replace bE := am_ (Kd.R_mono (ok' := fun k_ => True) ho0 (fun k_ hk_ => trivial))
         replace HB := am_ (hb)
         clear aC
         (try clear hb)
         (try clear hkp)
         (try clear ho0)
         refine hK.out _ _ ⟨(blk_cell ai.out 0).trans rfl, (blk_cell ai.out 1).trans rfl, ((HB.out.cell (World.block_lt_of_cell? w _ aF)).trans aF), ((HB.out.cell (World.block_lt_of_cell? w _ aG)).trans aG), ((HB.out.cell (World.block_lt_of_cell? w _ aH)).trans aH)⟩ (fun hHeld => ?_)
         clear hK K
         refine norm_ (a' := ?_) ?_ ?_
         rotate_left
         ·show Act.put _ (some 28) _ = _
          simp only [pn_, sz_, ss_, i64_w, i32_w]
          rfl
         refine pu_ 13 7 (bl 14 16383) HT_ ?_
         refine done_ (done_of HT_.out (by kernel_rfl)) ?_
         try go_wp2
         go_roundg k1
         case measure => have := HK1.out; omega
         case rel => exact ⟨(aU), (wrap64 (ae + 1)), (by first | rfl | (simp; done) | (simp [*]; done)), H', ⟨by have := HK1.out; omega⟩, ⟨by refine rr_ ?_; exact bE.out⟩, ⟨by refine rb_ ?_; exact ai.out⟩, ⟨by exact zp26_0_ HB.out aE.out⟩⟩
        ·rw [if_neg c12] at H
         exact absurd H (by simp)
       ·rw [if_neg c11] at H
        exact absurd H (by simp)
      ·rw [if_neg c10] at H
       exact absurd H (by simp)
     ·rw [if_neg c9] at H
      exact absurd H (by simp)
    ·rw [if_neg c8] at H
     exact absurd H (by simp)
   ·rw [if_neg c7] at H
    have c7b0 : decide (ae < (l1.length : Int)) = false := decide_eq_false c7
    clear c7
    obtain rfl := Option.some.inj H
    simp only [Option.some.injEq, Prod.mk.injEq] at H
    obtain ⟨rfl⟩ := H
    go_wp2
    go_ret
    exact ⟨_, by first | rfl | (simp [errW_none, errW_some] <;> rfl) | (simp [*, errW_none, errW_some] <;> rfl), by refine rr_ ?_; exact aC.out, by exact zp26_0_ HB.out aE.out⟩
def spec_l5Ints.l0 : Nat → List Int → List Int → Int → Option (Bool)
  | 0, _, _, _ => none
  | k + 1, x0, x1, x5 => if x5 < (x0.length : Int) then (if 0 ≤ x5 then (if x5 < (x1.length : Int) then (if (rd x0 x5) = (rd x1 x5) then (spec_l5Ints.l0 k x0 x1 (wrap64 (x5 + 1))) else (some false)) else (none)) else (none)) else (some true)
def spec_l5Ints.f (k : Nat) (l0 : List Int) (l1 : List Int) : Option (Bool) := if (l0.length : Int) = (l1.length : Int) then (spec_l5Ints.l0 k l0 l1 0) else (some false)
theorem spec_l5Ints.mono_l : ∀ k, (∀ y0 y1 y2, LeO (spec_l5Ints.l0 k y0 y1 y2) (spec_l5Ints.l0 (k + 1) y0 y1 y2))
  | 0 => fun _ _ _ r h => by simp [spec_l5Ints.l0] at h
  | k + 1 => by
    have ih0 := spec_l5Ints.mono_l k
    · intro y0 y1 y2
      unfold spec_l5Ints.l0
      repeat' first
      | (with_reducible exact ih0 _ _ _)
      | (with_reducible exact LeO.refl _)
      | (with_reducible exact LeO.none _)
      | (with_reducible refine LeO.ite ?_ ?_)
      | (with_reducible refine LeO.bind ?_ (fun _ => ?_))
      | exact ih0 _ _ _
      | exact LeO.none _
      | refine LeO.ite ?_ ?_
      | refine LeO.bind ?_ (fun _ => ?_)
theorem spec_l5Ints.mono : ∀ a0 a1 k, LeO (spec_l5Ints.f k a0 a1) (spec_l5Ints.f (k + 1) a0 a1) := by
  intro a0 a1 k
  have ih0 := spec_l5Ints.mono_l k
  unfold spec_l5Ints.f
  repeat' first
      | (with_reducible exact ih0 _ _ _)
      | (with_reducible exact LeO.refl _)
      | (with_reducible exact LeO.none _)
      | (with_reducible refine LeO.ite ?_ ?_)
      | (with_reducible refine LeO.bind ?_ (fun _ => ?_))
      | exact ih0 _ _ _
      | exact LeO.none _
      | refine LeO.ite ?_ ?_
      | refine LeO.bind ?_ (fun _ => ?_)
set_option maxHeartbeats 8000000 in
set_option maxRecDepth 100000 in
theorem spec_l5Ints.calls (k : Nat) (A0 : Option Addr) (c0 : Nat) (l0 : List Int) (A1 : Option Addr) (c1 : Nat) (l1 : List Int) (r : Bool) (w : World) (hr0 : Kd.C (Kd.int .i64) w A0 l0.length l0) (hc0 : l0.length ≤ c0) (hr1 : Kd.C (Kd.int .i64) w A1 l1.length l1) (hc1 : l1.length ≤ c1) (h : spec_l5Ints.f k l0 l1 = some r) :
    Calls Try.prog 93 #[.slice A0 l0.length c0, .slice A1 l1.length c1] w fun e w' => e = .returned (.bool r) ∧ Drawn0 w w' := by
  have HR0 := am_ hr0
  have HC0 := am_ hc0
  clear hr0 hc0
  have HR1 := am_ hr1
  have HC1 := am_ hc1
  clear hr1 hc1
  have H : (if (l0.length : Int) = (l1.length : Int) then (spec_l5Ints.l0 k l0 l1 0) else (some false)) = some r := h
  clear h
  by_cases c3 : (l0.length : Int) = (l1.length : Int)
  · rw [if_pos c3] at H
    have c3b0 : ((l0.length : Int) == (l1.length : Int)) = true := beq_iff_eq.mpr c3
    have c3b1 : ((l0.length : Int) != (l1.length : Int)) = false := bne_eq_false_iff_eq.mpr c3
    have c3b2 : (l0.length == l1.length) = true := by first | simpa using c3 | (simp at c3 ⊢; omega)
    clear c3
    have H' := am_ H
    clear H
    go_enter Try.func93, Try.ntmps93
    go_wp2
    repeat (go_quiet (fail); try go_wp2)
    go_loopg [5] k (fun kq v5 w' => ∃ (aa : Int), v5 = .int .i64 aa ∧ Aside0 (spec_l5Ints.l0 kq l0 l1 aa = some r) ∧ Aside0 (kq ≤ k) ∧ Drawn0 w w')
    case atStart => exact ⟨(0), (by first | rfl | (simp; done) | (simp [*]; done)), H', ⟨Nat.le_refl _⟩, by repeat (first | exact Drawn0.refl _ | apply Drawn0.step)⟩
    case round =>
      clear H'
      try clear c1
      try clear p2
      try clear c3
      try clear c3b0
      try clear c3b1
      try clear c3b2
      obtain ⟨aa, rfl, HA, HK1, ⟨m1, rfl⟩⟩ := hrel
      cases gk with
      | zero => exact absurd HA.out (by simp [spec_l5Ints.l0])
      | succ k1 =>
        have H := HA.out
        clear HA
        simp only [spec_l5Ints.l0] at H
        by_cases c4 : aa < (l0.length : Int)
        · rw [if_pos c4] at H
          have c4b0 : decide (aa < (l0.length : Int)) = true := decide_eq_true c4
          clear c4
          by_cases c5 : 0 ≤ aa
          · rw [if_pos c5] at H
            have c5b0 : decide (0 ≤ aa) = true := decide_eq_true c5
            clear c5
            by_cases c6 : aa < (l1.length : Int)
            · rw [if_pos c6] at H
              have c6b0 : decide (aa < (l1.length : Int)) = true := decide_eq_true c6
              clear c6
              by_cases c7 : (rd l0 aa) = (rd l1 aa)
              · rw [if_pos c7] at H
                have c7b0 : ((rd l0 aa) == (rd l1 aa)) = true := beq_iff_eq.mpr c7
                have c7b1 : ((rd l0 aa) != (rd l1 aa)) = false := bne_eq_false_iff_eq.mpr c7
                clear c7
                have H' := am_ H
                clear H
                have p400 : 0 ≤ (aa : Int) := of_decide_eq_true ah_
                have q400 : aa < (l0.length : Int) := of_decide_eq_true ah_
                obtain ⟨bF, e400, bk⟩ := Kd.at_int HR0.out aa p400 q400
                cases e400
                replace p400 := eq_true p400
                replace q400 := eq_true q400
                have p401 : 0 ≤ (aa : Int) := of_decide_eq_true ah_
                have q401 : aa < (l1.length : Int) := of_decide_eq_true ah_
                obtain ⟨bG, e401, bm⟩ := Kd.at_int HR1.out aa p401 q401
                cases e401
                replace p401 := eq_true p401
                replace q401 := eq_true q401
                go_wp2
                repeat (go_quiet (fail); try go_wp2)
                go_roundg k1
                case measure => have := HK1.out; omega
                case rel => exact ⟨(wrap64 (aa + 1)), (by first | rfl | (simp; done) | (simp [*]; done)), H', ⟨by have := HK1.out; omega⟩, by repeat (first | exact Drawn0.refl _ | apply Drawn0.step)⟩
              · rw [if_neg c7] at H
                have c7b0 : ((rd l0 aa) == (rd l1 aa)) = false := beq_eq_false_iff_ne.mpr c7
                have c7b1 : ((rd l0 aa) != (rd l1 aa)) = true := bne_iff_ne.mpr c7
                obtain rfl := Option.some.inj H
                simp only [Option.some.injEq, Prod.mk.injEq] at H
                obtain ⟨rfl⟩ := H
                have p400 : 0 ≤ (aa : Int) := of_decide_eq_true ah_
                have q400 : aa < (l0.length : Int) := of_decide_eq_true ah_
                obtain ⟨bF, e400, bk⟩ := Kd.at_int HR0.out aa p400 q400
                cases e400
                replace p400 := eq_true p400
                replace q400 := eq_true q400
                have p401 : 0 ≤ (aa : Int) := of_decide_eq_true ah_
                have q401 : aa < (l1.length : Int) := of_decide_eq_true ah_
                obtain ⟨bG, e401, bm⟩ := Kd.at_int HR1.out aa p401 q401
                cases e401
                replace p401 := eq_true p401
                replace q401 := eq_true q401
                go_wp2
                repeat (go_quiet (fail); try go_wp2)
                go_ret
                exact ⟨by first | rfl | (simp; done) | (simp [*]; done), by repeat (first | exact Drawn0.refl _ | apply Drawn0.step)⟩
            · rw [if_neg c6] at H
              exact absurd H (by simp)
          · rw [if_neg c5] at H
            exact absurd H (by simp)
        · rw [if_neg c4] at H
          have c4b0 : decide (aa < (l0.length : Int)) = false := decide_eq_false c4
          clear c4
          obtain rfl := Option.some.inj H
          simp only [Option.some.injEq, Prod.mk.injEq] at H
          obtain ⟨rfl⟩ := H
          go_wp2
          repeat (go_quiet (fail); try go_wp2)
          go_ret
          exact ⟨by first | rfl | (simp; done) | (simp [*]; done), by repeat (first | exact Drawn0.refl _ | apply Drawn0.step)⟩
  · rw [if_neg c3] at H
    have c3b0 : ((l0.length : Int) == (l1.length : Int)) = false := beq_eq_false_iff_ne.mpr c3
    have c3b1 : ((l0.length : Int) != (l1.length : Int)) = true := bne_iff_ne.mpr c3
    have c3b2 : (l0.length == l1.length) = false := by first | simpa using c3 | (simp at c3 ⊢; omega)
    obtain rfl := Option.some.inj H
    simp only [Option.some.injEq, Prod.mk.injEq] at H
    obtain ⟨rfl⟩ := H
    go_enter Try.func93, Try.ntmps93
    go_wp2
    repeat (go_quiet (fail); try go_wp2)
    go_ret
    exact ⟨by first | rfl | (simp; done) | (simp [*]; done), by repeat (first | exact Drawn0.refl _ | apply Drawn0.step)⟩
def spec_l6Find.l0 : Nat → List (S78) → Int → Int → List Int → Bool → Option (Int)
  | 0, _, _, _, _, _ => none
  | k + 1, x0, x5, aI, aJ, aK => if x5 < (x0.length : Int) then (if 0 ≤ x5 then (if ((rd_T78 x0 x5).f0) = aI then (if (((rd_T78 x0 x5).f2) == aK) = true then ((spec_l5Ints.f k ((rd_T78 x0 x5).f1) aJ).bind fun bc => (if bc = true then (some x5) else (spec_l6Find.l0 k x0 (wrap64 (x5 + 1)) aI aJ aK))) else (spec_l6Find.l0 k x0 (wrap64 (x5 + 1)) aI aJ aK)) else (spec_l6Find.l0 k x0 (wrap64 (x5 + 1)) aI aJ aK)) else (none)) else (some (-1))
def spec_l6Find.f (k : Nat) (l0 : List (S78)) (a1_0 : Int) (l1_1 : List Int) (a1_2 : Bool) : Option (Int) := spec_l6Find.l0 k l0 0 a1_0 l1_1 a1_2
theorem spec_l6Find.mono_l : ∀ k, (∀ y0 y1 y2 y3 y4, LeO (spec_l6Find.l0 k y0 y1 y2 y3 y4) (spec_l6Find.l0 (k + 1) y0 y1 y2 y3 y4))
 | 0 => fun _ _ _ _ _ r h => by simp [spec_l6Find.l0] at h
 | k + 1 => by
  have ih0 := spec_l6Find.mono_l k
  ·intro y0 y1 y2 y3 y4
   unfold spec_l6Find.l0
   repeat' first
   | (with_reducible exact ih0 _ _ _ _ _)
   | (with_reducible exact spec_l5Ints.mono _ _ _)
   | (with_reducible exact LeO.refl _)
   | (with_reducible exact LeO.none _)
   | (with_reducible refine LeO.ite ?_ ?_)
   | (with_reducible refine LeO.bind ?_ (fun _ => ?_))
   | exact ih0 _ _ _ _ _
   | exact spec_l5Ints.mono _ _ _
   | exact LeO.none _
   | refine LeO.ite ?_ ?_
   | refine LeO.bind ?_ (fun _ => ?_)
theorem spec_l6Find.mono : ∀ a0 a1 a2 a3 k, LeO (spec_l6Find.f k a0 a1 a2 a3) (spec_l6Find.f (k + 1) a0 a1 a2 a3) := by
 intro a0 a1 a2 a3 k
 have ih0 := spec_l6Find.mono_l k
 unfold spec_l6Find.f
 repeat' first
   | (with_reducible exact ih0 _ _ _ _ _)
   | (with_reducible exact spec_l5Ints.mono _ _ _)
   | (with_reducible exact LeO.refl _)
   | (with_reducible exact LeO.none _)
   | (with_reducible refine LeO.ite ?_ ?_)
   | (with_reducible refine LeO.bind ?_ (fun _ => ?_))
   | exact ih0 _ _ _ _ _
   | exact spec_l5Ints.mono _ _ _
   | exact LeO.none _
   | refine LeO.ite ?_ ?_
   | refine LeO.bind ?_ (fun _ => ?_)
set_option maxHeartbeats 8000000 in
set_option maxRecDepth 100000 in
theorem spec_l6Find.calls (k : Nat) (A0 : Option Addr) (c0 : Nat) (l0 : List (S78)) (a1_0 : Int) (A1_1 : Option Addr) (c1_1 : Nat) (l1_1 : List Int) (a1_2 : Bool) (r : Int) (w : World) (hr0 : Kd.C k78 w A0 l0.length l0) (hc0 : l0.length ≤ c0) (hr1_1 : Kd.C (Kd.int .i64) w A1_1 l1_1.length l1_1) (hc1_1 : l1_1.length ≤ c1_1) (h : spec_l6Find.f k l0 a1_0 l1_1 a1_2 = some r) :
  Calls Try.prog 75 #[.slice A0 l0.length c0, .agg #[.int .i64 a1_0, .slice A1_1 l1_1.length c1_1, .bool a1_2]] w fun e w' => e = .returned (.int .i64 r) ∧ Below w.heap.size w w' := by
 have hu78 := Try.underlying78
 have HR0 := am_ hr0
 have HC0 := am_ hc0
 clear hr0 hc0
 have aL := am_ hr1_1
 have aM := am_ hc1_1
 clear hr1_1 hc1_1
 have HB := am_ (Below.refl w.heap.size w)
 have H : (spec_l6Find.l0 k l0 0 a1_0 l1_1 a1_2) = some r := h
 clear h
 have H' := am_ H
 clear H
 go_enter Try.func75, Try.ntmps75
 go_wp2_with (first | ((with_reducible refine gate_dst (N := 3) rfl ?_); refine box_event ?hg (N := 3) ?hd (cs := #[.int .i64 a1_0, .slice A1_1 l1_1.length c1_1, .bool a1_2]) (t := 78) ?hr ?_; (case hd => rfl); (case hg => rfl); (case hr => first | (go_simp; done) | (go_simp; rfl)); intro av hg w3 hbox hb; replace ab := am_ (hbox); replace bh := am_ ((by rw [hg]; exact (below_size (b0_ HB.out)) : w.heap.size ≤ av)); replace ax := am_ ((by rw [hg]; exact (below_size (b0_ HB.out)) : w.heap.size ≤ av)); replace HB := am_ (below_step (b0_ HB.out) hb); clear hb hbox hg))
 repeat (go_quiet (first | ((with_reducible refine gate_dst (N := 3) rfl ?_); refine box_event ?hg (N := 3) ?hd (cs := #[.int .i64 a1_0, .slice A1_1 l1_1.length c1_1, .bool a1_2]) (t := 78) ?hr ?_; (case hd => rfl); (case hg => rfl); (case hr => first | (go_simp; done) | (go_simp; rfl)); intro av hg w3 hbox hb; replace ab := am_ (hbox); replace bh := am_ ((by rw [hg]; exact (below_size (b0_ HB.out)) : w.heap.size ≤ av)); replace ax := am_ ((by rw [hg]; exact (below_size (b0_ HB.out)) : w.heap.size ≤ av)); replace HB := am_ (below_step (b0_ HB.out) hb); clear hb hbox hg)); try go_wp2_with (first | ((with_reducible refine gate_dst (N := 3) rfl ?_); refine box_event ?hg (N := 3) ?hd (cs := #[.int .i64 a1_0, .slice A1_1 l1_1.length c1_1, .bool a1_2]) (t := 78) ?hr ?_; (case hd => rfl); (case hg => rfl); (case hr => first | (go_simp; done) | (go_simp; rfl)); intro av hg w3 hbox hb; replace ab := am_ (hbox); replace bh := am_ ((by rw [hg]; exact (below_size (b0_ HB.out)) : w.heap.size ≤ av)); replace ax := am_ ((by rw [hg]; exact (below_size (b0_ HB.out)) : w.heap.size ≤ av)); replace HB := am_ (below_step (b0_ HB.out) hb); clear hb hbox hg)))
 go_loopg [5] k (fun kq v5 w' => ∃ (aa : Int), v5 = .int .i64 aa ∧ Aside0 (spec_l6Find.l0 kq l0 aa a1_0 l1_1 a1_2 = some r) ∧ Aside0 (kq ≤ k) ∧ Aside0 (w'.heap[av]? = some (.cells #[.int .i64 a1_0, (.slice A1_1 l1_1.length c1_1), .bool a1_2] 78 (0, 0))) ∧ Aside0 (Below w.heap.size w w'))
 case atStart => exact ⟨(0), (by first | rfl | (simp; done) | (simp [*]; done)), H', ⟨Nat.le_refl _⟩, ⟨by refine rb_ ?_; exact ab.out⟩, ⟨by exact zp26_0_ HB.out ax.out⟩⟩
 case round =>
  clear H'
  try clear c1
  try clear p2
  obtain ⟨aa, rfl, HA, HK1, ab, HB⟩ := hrel
  cases gk with
  | zero => exact absurd HA.out (by simp [spec_l6Find.l0])
  | succ k1 =>
   have H := HA.out
   clear HA
   simp only [spec_l6Find.l0] at H
   by_cases c4 : aa < (l0.length : Int)
   ·rw [if_pos c4] at H
    have c4b0 : decide (aa < (l0.length : Int)) = true := decide_eq_true c4
    clear c4
    by_cases c5 : 0 ≤ aa
    ·rw [if_pos c5] at H
     have c5b0 : decide (0 ≤ aa) = true := decide_eq_true c5
     clear c5
     by_cases c6 : ((rd_T78 l0 aa).f0) = a1_0
     ·rw [if_pos c6] at H
      have c6b0 : (((rd_T78 l0 aa).f0) == a1_0) = true := beq_iff_eq.mpr c6
      have c6b1 : (((rd_T78 l0 aa).f0) != a1_0) = false := bne_eq_false_iff_eq.mpr c6
      clear c6
      by_cases c7 : (((rd_T78 l0 aa).f2) == a1_2) = true
      ·rw [if_pos c7] at H
       have c7b0 : (((rd_T78 l0 aa).f2) == a1_2) = true := c7
       (try (have c7b1 : decide (((rd_T78 l0 aa).f2) = a1_2) = true := by simpa using c7))
       (try (have c7b2 : (((rd_T78 l0 aa).f2) == a1_2) = true := by simpa using c7))
       clear c7
       replace H := Option.bind_eq_some_iff.mp H
       obtain ⟨bc, A80, H⟩ := H
       have A8 := am_ A80
       clear A80
       by_cases c9 : bc = true
       ·subst c9
        have H1 : (some aa) = some r := by rw [if_pos rfl] at H; exact H
        clear H
        have H := H1
        clear H1
        obtain rfl := Option.some.inj H
        simp only [Option.some.injEq, Prod.mk.injEq] at H
        obtain ⟨rfl⟩ := H
        have p403 : 0 ≤ (aa : Int) := of_decide_eq_true ah_
        have q403 : aa < (l0.length : Int) := of_decide_eq_true ah_
        obtain ⟨ay, A403_1, c403_1, e403, af, ad, ag, hl403_1, hi403_1⟩ := at_T78 HR0.out aa p403 q403
        cases e403
        replace af := (HB.out.cell (World.block_lt_of_cell? w _ af)).trans af
        replace ad := (HB.out.cell (World.block_lt_of_cell? w _ ad)).trans ad
        replace ag := (HB.out.cell (World.block_lt_of_cell? w _ ag)).trans ag
        have aR := am_ hi403_1
        have aS := am_ hl403_1
        clear hi403_1 hl403_1
        replace p403 := eq_true p403
        replace q403 := eq_true q403
        have bn := ck_ (v := (.int .i64 a1_0)) ab 0 rfl
        have bo := ck_ (v := (.slice A1_1 l1_1.length c1_1)) ab 1 rfl
        have bK := ck_ (v := (.bool a1_2)) ab 2 rfl
        have bp := blk_frozen ab.out 0
        have bq := blk_frozen ab.out 1
        have bL := blk_frozen ab.out 2
        have p404 : 0 ≤ (aa : Int) := of_decide_eq_true ah_
        have q404 : aa < (l0.length : Int) := of_decide_eq_true ah_
        obtain ⟨aQ, A404_1, c404_1, e404, aj, ah, ak, hl404_1, hi404_1⟩ := at_T78 HR0.out aa p404 q404
        obtain rfl : ay = aQ := (by injection e404)
        replace aj := (HB.out.cell (World.block_lt_of_cell? w _ aj)).trans aj
        replace ah := (HB.out.cell (World.block_lt_of_cell? w _ ah)).trans ah
        replace ak := (HB.out.cell (World.block_lt_of_cell? w _ ak)).trans ak
        have aW := am_ hi404_1
        have aX := am_ hl404_1
        clear hi404_1 hl404_1
        replace p404 := eq_true p404
        replace q404 := eq_true q404
        have ea_ := Option.some.inj (ad.symm.trans ah)
        injection ea_ with ea_ en_ ec_
        subst ea_
        subst ec_
        clear en_
        have p405 : 0 ≤ (aa : Int) := of_decide_eq_true ah_
        have q405 : aa < (l0.length : Int) := of_decide_eq_true ah_
        obtain ⟨aZ, A405_1, c405_1, e405, ao, al, ap, hl405_1, hi405_1⟩ := at_T78 HR0.out aa p405 q405
        obtain rfl : ay = aZ := (by injection e405)
        replace ao := (HB.out.cell (World.block_lt_of_cell? w _ ao)).trans ao
        replace al := (HB.out.cell (World.block_lt_of_cell? w _ al)).trans al
        replace ap := (HB.out.cell (World.block_lt_of_cell? w _ ap)).trans ap
        have aq := am_ hi405_1
        have ar := am_ hl405_1
        clear hi405_1 hl405_1
        replace p405 := eq_true p405
        replace q405 := eq_true q405
        have ea_ := Option.some.inj (ad.symm.trans al)
        injection ea_ with ea_ en_ ec_
        subst ea_
        subst ec_
        clear en_
        go_wp2_with (first | (go_at_call 93; (with_reducible refine (spec_l5Ints.calls k1 _ _ ((rd_T78 l0 aa).f1) _ _ l1_1 true _ ?side1 ?side2 ?side3 ?side4 A8.out).mono ?_); (case side1 => exact rc_ (Kd.C_below aq.out HB.out)); (case side2 => exact ar.out); (case side3 => exact rc_ (Kd.C_below aL.out HB.out)); (case side4 => exact aM.out); rintro e w' ⟨rfl, ⟨nd, rfl⟩⟩; (try first | exact ⟨rfl, _, World.drewN_drewN _ _ _⟩ | exact ⟨rfl, _, Eq.trans (World.drewN_drewN _ _ _) (congrArg (World.drewN _) (Nat.add_assoc _ _ _))⟩)))
        repeat (go_quiet (first | (go_at_call 93; (with_reducible refine (spec_l5Ints.calls k1 _ _ ((rd_T78 l0 aa).f1) _ _ l1_1 true _ ?side1 ?side2 ?side3 ?side4 A8.out).mono ?_); (case side1 => exact rc_ (Kd.C_below aq.out HB.out)); (case side2 => exact ar.out); (case side3 => exact rc_ (Kd.C_below aL.out HB.out)); (case side4 => exact aM.out); rintro e w' ⟨rfl, ⟨nd, rfl⟩⟩; (try first | exact ⟨rfl, _, World.drewN_drewN _ _ _⟩ | exact ⟨rfl, _, Eq.trans (World.drewN_drewN _ _ _) (congrArg (World.drewN _) (Nat.add_assoc _ _ _))⟩))); try go_wp2_with (first | (go_at_call 93; (with_reducible refine (spec_l5Ints.calls k1 _ _ ((rd_T78 l0 aa).f1) _ _ l1_1 true _ ?side1 ?side2 ?side3 ?side4 A8.out).mono ?_); (case side1 => exact rc_ (Kd.C_below aq.out HB.out)); (case side2 => exact ar.out); (case side3 => exact rc_ (Kd.C_below aL.out HB.out)); (case side4 => exact aM.out); rintro e w' ⟨rfl, ⟨nd, rfl⟩⟩; (try first | exact ⟨rfl, _, World.drewN_drewN _ _ _⟩ | exact ⟨rfl, _, Eq.trans (World.drewN_drewN _ _ _) (congrArg (World.drewN _) (Nat.add_assoc _ _ _))⟩))))
        go_ret
        exact ⟨by first | rfl | (simp [errW_none, errW_some] <;> rfl) | (simp [*, errW_none, errW_some] <;> rfl), by exact zp26_0_ HB.out ax.out⟩
       ·replace c9 := Bool.eq_false_iff.mpr c9
        subst c9
        have H1 : (spec_l6Find.l0 k1 l0 (wrap64 (aa + 1)) a1_0 l1_1 a1_2) = some r := by rw [if_neg (show ¬ (false = true) by decide)] at H; exact H
        clear H
        have H := H1
        clear H1
        have H' := am_ H
        clear H
        have p403 : 0 ≤ (aa : Int) := of_decide_eq_true ah_
        have q403 : aa < (l0.length : Int) := of_decide_eq_true ah_
        obtain ⟨ay, A403_1, c403_1, e403, af, ad, ag, hl403_1, hi403_1⟩ := at_T78 HR0.out aa p403 q403
        cases e403
        replace af := (HB.out.cell (World.block_lt_of_cell? w _ af)).trans af
        replace ad := (HB.out.cell (World.block_lt_of_cell? w _ ad)).trans ad
        replace ag := (HB.out.cell (World.block_lt_of_cell? w _ ag)).trans ag
        have aR := am_ hi403_1
        have aS := am_ hl403_1
        clear hi403_1 hl403_1
        replace p403 := eq_true p403
        replace q403 := eq_true q403
        have br := ck_ (v := (.int .i64 a1_0)) ab 0 rfl
        have bs := ck_ (v := (.slice A1_1 l1_1.length c1_1)) ab 1 rfl
        have bM := ck_ (v := (.bool a1_2)) ab 2 rfl
        have bt := blk_frozen ab.out 0
        have bu := blk_frozen ab.out 1
        have bN := blk_frozen ab.out 2
        have p404 : 0 ≤ (aa : Int) := of_decide_eq_true ah_
        have q404 : aa < (l0.length : Int) := of_decide_eq_true ah_
        obtain ⟨aQ, A404_1, c404_1, e404, aj, ah, ak, hl404_1, hi404_1⟩ := at_T78 HR0.out aa p404 q404
        obtain rfl : ay = aQ := (by injection e404)
        replace aj := (HB.out.cell (World.block_lt_of_cell? w _ aj)).trans aj
        replace ah := (HB.out.cell (World.block_lt_of_cell? w _ ah)).trans ah
        replace ak := (HB.out.cell (World.block_lt_of_cell? w _ ak)).trans ak
        have aW := am_ hi404_1
        have aX := am_ hl404_1
        clear hi404_1 hl404_1
        replace p404 := eq_true p404
        replace q404 := eq_true q404
        have ea_ := Option.some.inj (ad.symm.trans ah)
        injection ea_ with ea_ en_ ec_
        subst ea_
        subst ec_
        clear en_
        have p405 : 0 ≤ (aa : Int) := of_decide_eq_true ah_
        have q405 : aa < (l0.length : Int) := of_decide_eq_true ah_
        obtain ⟨aZ, A405_1, c405_1, e405, ao, al, ap, hl405_1, hi405_1⟩ := at_T78 HR0.out aa p405 q405
        obtain rfl : ay = aZ := (by injection e405)
        replace ao := (HB.out.cell (World.block_lt_of_cell? w _ ao)).trans ao
        replace al := (HB.out.cell (World.block_lt_of_cell? w _ al)).trans al
        replace ap := (HB.out.cell (World.block_lt_of_cell? w _ ap)).trans ap
        have aq := am_ hi405_1
        have ar := am_ hl405_1
        clear hi405_1 hl405_1
        replace p405 := eq_true p405
        replace q405 := eq_true q405
        have ea_ := Option.some.inj (ad.symm.trans al)
        injection ea_ with ea_ en_ ec_
        subst ea_
        subst ec_
        clear en_
        go_wp2_with (first | (go_at_call 93; (with_reducible refine (spec_l5Ints.calls k1 _ _ ((rd_T78 l0 aa).f1) _ _ l1_1 false _ ?side1 ?side2 ?side3 ?side4 A8.out).mono ?_); (case side1 => exact rc_ (Kd.C_below aq.out HB.out)); (case side2 => exact ar.out); (case side3 => exact rc_ (Kd.C_below aL.out HB.out)); (case side4 => exact aM.out); rintro e w' ⟨rfl, ⟨nd, rfl⟩⟩; (try first | exact ⟨rfl, _, World.drewN_drewN _ _ _⟩ | exact ⟨rfl, _, Eq.trans (World.drewN_drewN _ _ _) (congrArg (World.drewN _) (Nat.add_assoc _ _ _))⟩)))
        repeat (go_quiet (first | (go_at_call 93; (with_reducible refine (spec_l5Ints.calls k1 _ _ ((rd_T78 l0 aa).f1) _ _ l1_1 false _ ?side1 ?side2 ?side3 ?side4 A8.out).mono ?_); (case side1 => exact rc_ (Kd.C_below aq.out HB.out)); (case side2 => exact ar.out); (case side3 => exact rc_ (Kd.C_below aL.out HB.out)); (case side4 => exact aM.out); rintro e w' ⟨rfl, ⟨nd, rfl⟩⟩; (try first | exact ⟨rfl, _, World.drewN_drewN _ _ _⟩ | exact ⟨rfl, _, Eq.trans (World.drewN_drewN _ _ _) (congrArg (World.drewN _) (Nat.add_assoc _ _ _))⟩))); try go_wp2_with (first | (go_at_call 93; (with_reducible refine (spec_l5Ints.calls k1 _ _ ((rd_T78 l0 aa).f1) _ _ l1_1 false _ ?side1 ?side2 ?side3 ?side4 A8.out).mono ?_); (case side1 => exact rc_ (Kd.C_below aq.out HB.out)); (case side2 => exact ar.out); (case side3 => exact rc_ (Kd.C_below aL.out HB.out)); (case side4 => exact aM.out); rintro e w' ⟨rfl, ⟨nd, rfl⟩⟩; (try first | exact ⟨rfl, _, World.drewN_drewN _ _ _⟩ | exact ⟨rfl, _, Eq.trans (World.drewN_drewN _ _ _) (congrArg (World.drewN _) (Nat.add_assoc _ _ _))⟩))))
        go_roundg k1
        case measure => have := HK1.out; omega
        case rel => exact ⟨(wrap64 (aa + 1)), (by first | rfl | (simp; done) | (simp [*]; done)), H', ⟨by have := HK1.out; omega⟩, ⟨by refine rb_ ?_; exact ab.out⟩, ⟨by exact zp26_0_ HB.out ax.out⟩⟩
      ·rw [if_neg c7] at H
       have c7b0 : (((rd_T78 l0 aa).f2) == a1_2) = false := by simpa using c7
       (try (have c7b1 : decide (((rd_T78 l0 aa).f2) = a1_2) = false := by simpa using c7))
       (try (have c7b2 : (((rd_T78 l0 aa).f2) == a1_2) = false := by simpa using c7))
       (try (have c7b3 : ¬ (((rd_T78 l0 aa).f2) = a1_2) := by simpa using c7))
       clear c7
       have H' := am_ H
       clear H
       have p403 : 0 ≤ (aa : Int) := of_decide_eq_true ah_
       have q403 : aa < (l0.length : Int) := of_decide_eq_true ah_
       obtain ⟨ay, A403_1, c403_1, e403, af, ad, ag, hl403_1, hi403_1⟩ := at_T78 HR0.out aa p403 q403
       cases e403
       replace af := (HB.out.cell (World.block_lt_of_cell? w _ af)).trans af
       replace ad := (HB.out.cell (World.block_lt_of_cell? w _ ad)).trans ad
       replace ag := (HB.out.cell (World.block_lt_of_cell? w _ ag)).trans ag
       have aR := am_ hi403_1
       have aS := am_ hl403_1
       clear hi403_1 hl403_1
       replace p403 := eq_true p403
       replace q403 := eq_true q403
       have bO := ck_ (v := (.int .i64 a1_0)) ab 0 rfl
       have bP := ck_ (v := (.slice A1_1 l1_1.length c1_1)) ab 1 rfl
       have bQ := ck_ (v := (.bool a1_2)) ab 2 rfl
       have bR := blk_frozen ab.out 0
       have bS := blk_frozen ab.out 1
       have bT := blk_frozen ab.out 2
       have p404 : 0 ≤ (aa : Int) := of_decide_eq_true ah_
       have q404 : aa < (l0.length : Int) := of_decide_eq_true ah_
       obtain ⟨aQ, A404_1, c404_1, e404, aj, ah, ak, hl404_1, hi404_1⟩ := at_T78 HR0.out aa p404 q404
       obtain rfl : ay = aQ := (by injection e404)
       replace aj := (HB.out.cell (World.block_lt_of_cell? w _ aj)).trans aj
       replace ah := (HB.out.cell (World.block_lt_of_cell? w _ ah)).trans ah
       replace ak := (HB.out.cell (World.block_lt_of_cell? w _ ak)).trans ak
       have aW := am_ hi404_1
       have aX := am_ hl404_1
       clear hi404_1 hl404_1
       replace p404 := eq_true p404
       replace q404 := eq_true q404
       have ea_ := Option.some.inj (ad.symm.trans ah)
       injection ea_ with ea_ en_ ec_
       subst ea_
       subst ec_
       clear en_
       go_wp2
       repeat (go_quiet (fail); try go_wp2)
       go_roundg k1
       case measure => have := HK1.out; omega
       case rel => exact ⟨(wrap64 (aa + 1)), (by first | rfl | (simp; done) | (simp [*]; done)), H', ⟨by have := HK1.out; omega⟩, ⟨by refine rb_ ?_; exact ab.out⟩, ⟨by exact zp26_0_ HB.out ax.out⟩⟩
     ·rw [if_neg c6] at H
      have c6b0 : (((rd_T78 l0 aa).f0) == a1_0) = false := beq_eq_false_iff_ne.mpr c6
      have c6b1 : (((rd_T78 l0 aa).f0) != a1_0) = true := bne_iff_ne.mpr c6
      have H' := am_ H
      clear H
      have p403 : 0 ≤ (aa : Int) := of_decide_eq_true ah_
      have q403 : aa < (l0.length : Int) := of_decide_eq_true ah_
      obtain ⟨ay, A403_1, c403_1, e403, af, ad, ag, hl403_1, hi403_1⟩ := at_T78 HR0.out aa p403 q403
      cases e403
      replace af := (HB.out.cell (World.block_lt_of_cell? w _ af)).trans af
      replace ad := (HB.out.cell (World.block_lt_of_cell? w _ ad)).trans ad
      replace ag := (HB.out.cell (World.block_lt_of_cell? w _ ag)).trans ag
      have aR := am_ hi403_1
      have aS := am_ hl403_1
      clear hi403_1 hl403_1
      replace p403 := eq_true p403
      replace q403 := eq_true q403
      have bU := ck_ (v := (.int .i64 a1_0)) ab 0 rfl
      have bV := ck_ (v := (.slice A1_1 l1_1.length c1_1)) ab 1 rfl
      have bW := ck_ (v := (.bool a1_2)) ab 2 rfl
      have bX := blk_frozen ab.out 0
      have bY := blk_frozen ab.out 1
      have bZ := blk_frozen ab.out 2
      go_wp2
      repeat (go_quiet (fail); try go_wp2)
      go_roundg k1
      case measure => have := HK1.out; omega
      case rel => exact ⟨(wrap64 (aa + 1)), (by first | rfl | (simp; done) | (simp [*]; done)), H', ⟨by have := HK1.out; omega⟩, ⟨by refine rb_ ?_; exact ab.out⟩, ⟨by exact zp26_0_ HB.out ax.out⟩⟩
    ·rw [if_neg c5] at H
     exact absurd H (by simp)
   ·rw [if_neg c4] at H
    have c4b0 : decide (aa < (l0.length : Int)) = false := decide_eq_false c4
    clear c4
    obtain rfl := Option.some.inj H
    simp only [Option.some.injEq, Prod.mk.injEq] at H
    obtain ⟨rfl⟩ := H
    go_wp2
    repeat (go_quiet (fail); try go_wp2)
    go_ret
    exact ⟨by first | rfl | (simp [errW_none, errW_some] <;> rfl) | (simp [*, errW_none, errW_some] <;> rfl), by exact zp26_0_ HB.out ax.out⟩
def spec_l6Any.l0 : Nat → List Int → Int → List Bool → List (List Int) → Option (Bool)
  | 0, _, _, _, _ => none
  | k + 1, x1, x5, aT, bv => if x5 < (x1.length : Int) then (if 0 ≤ x5 then (if 0 ≤ (rd x1 x5) then (if (rd x1 x5) < (aT.length : Int) then (if rdOf false aT (rd x1 x5) = true then (some true) else (spec_l6Any.l0 k x1 (wrap64 (x5 + 1)) aT bv)) else (none)) else (none)) else (none)) else (some false)
def spec_l6Any.f (k : Nat) (l0_0 : List Bool) (l0_1 : List (List Int)) (l1 : List Int) : Option (Bool) := spec_l6Any.l0 k l1 0 l0_0 l0_1
theorem spec_l6Any.mono_l : ∀ k, (∀ y0 y1 y2 y3, LeO (spec_l6Any.l0 k y0 y1 y2 y3) (spec_l6Any.l0 (k + 1) y0 y1 y2 y3))
  | 0 => fun _ _ _ _ r h => by simp [spec_l6Any.l0] at h
  | k + 1 => by
    have ih0 := spec_l6Any.mono_l k
    · intro y0 y1 y2 y3
      unfold spec_l6Any.l0
      repeat' first
      | (with_reducible exact ih0 _ _ _ _)
      | (with_reducible exact LeO.refl _)
      | (with_reducible exact LeO.none _)
      | (with_reducible refine LeO.ite ?_ ?_)
      | (with_reducible refine LeO.bind ?_ (fun _ => ?_))
      | exact ih0 _ _ _ _
      | exact LeO.none _
      | refine LeO.ite ?_ ?_
      | refine LeO.bind ?_ (fun _ => ?_)
theorem spec_l6Any.mono : ∀ a0 a1 a2 k, LeO (spec_l6Any.f k a0 a1 a2) (spec_l6Any.f (k + 1) a0 a1 a2) := by
  intro a0 a1 a2 k
  have ih0 := spec_l6Any.mono_l k
  unfold spec_l6Any.f
  repeat' first
      | (with_reducible exact ih0 _ _ _ _)
      | (with_reducible exact LeO.refl _)
      | (with_reducible exact LeO.none _)
      | (with_reducible refine LeO.ite ?_ ?_)
      | (with_reducible refine LeO.bind ?_ (fun _ => ?_))
      | exact ih0 _ _ _ _
      | exact LeO.none _
      | refine LeO.ite ?_ ?_
      | refine LeO.bind ?_ (fun _ => ?_)
set_option maxHeartbeats 8000000 in
set_option maxRecDepth 100000 in
theorem spec_l6Any.calls (k : Nat) (A0_0 : Option Addr) (c0_0 : Nat) (l0_0 : List Bool) (A0_1 : Option Addr) (c0_1 : Nat) (l0_1 : List (List Int)) (A1 : Option Addr) (c1 : Nat) (l1 : List Int) (r : Bool) (w : World) (hr0_0 : Kd.C Kd.bool w A0_0 l0_0.length l0_0) (hc0_0 : l0_0.length ≤ c0_0) (hr0_1 : Kd.C (Kd.slice 3 (Kd.int .i64)) w A0_1 l0_1.length l0_1) (hc0_1 : l0_1.length ≤ c0_1) (hr1 : Kd.C (Kd.int .i64) w A1 l1.length l1) (hc1 : l1.length ≤ c1) (h : spec_l6Any.f k l0_0 l0_1 l1 = some r) :
    Calls Try.prog 76 #[.agg #[.slice A0_0 l0_0.length c0_0, .slice A0_1 l0_1.length c0_1], .slice A1 l1.length c1] w fun e w' => e = .returned (.bool r) ∧ Below w.heap.size w w' := by
  have hu27 := Try.underlying27
  have aY := am_ hr0_0
  have bA := am_ hc0_0
  clear hr0_0 hc0_0
  have bd := am_ hr0_1
  have bB := am_ hc0_1
  clear hr0_1 hc0_1
  have HR1 := am_ hr1
  have HC1 := am_ hc1
  clear hr1 hc1
  have HB := am_ (Below.refl w.heap.size w)
  have H : (spec_l6Any.l0 k l1 0 l0_0 l0_1) = some r := h
  clear h
  have H' := am_ H
  clear H
  go_enter Try.func76, Try.ntmps76
  go_wp2_with (first | ((with_reducible refine gate_dst (N := 2) rfl ?_); refine box_event ?hg (N := 2) ?hd (cs := #[.slice A0_0 l0_0.length c0_0, .slice A0_1 l0_1.length c0_1]) (t := 27) ?hr ?_; (case hd => rfl); (case hg => rfl); (case hr => first | (go_simp; done) | (go_simp; rfl)); intro aw hg w3 hbox hb; replace am := am_ (hbox); replace bi := am_ ((by rw [hg]; exact (below_size (b0_ HB.out)) : w.heap.size ≤ aw)); replace aN := am_ ((by rw [hg]; exact (below_size (b0_ HB.out)) : w.heap.size ≤ aw)); replace HB := am_ (below_step (b0_ HB.out) hb); clear hb hbox hg))
  repeat (go_quiet (first | ((with_reducible refine gate_dst (N := 2) rfl ?_); refine box_event ?hg (N := 2) ?hd (cs := #[.slice A0_0 l0_0.length c0_0, .slice A0_1 l0_1.length c0_1]) (t := 27) ?hr ?_; (case hd => rfl); (case hg => rfl); (case hr => first | (go_simp; done) | (go_simp; rfl)); intro aw hg w3 hbox hb; replace am := am_ (hbox); replace bi := am_ ((by rw [hg]; exact (below_size (b0_ HB.out)) : w.heap.size ≤ aw)); replace aN := am_ ((by rw [hg]; exact (below_size (b0_ HB.out)) : w.heap.size ≤ aw)); replace HB := am_ (below_step (b0_ HB.out) hb); clear hb hbox hg)); try go_wp2_with (first | ((with_reducible refine gate_dst (N := 2) rfl ?_); refine box_event ?hg (N := 2) ?hd (cs := #[.slice A0_0 l0_0.length c0_0, .slice A0_1 l0_1.length c0_1]) (t := 27) ?hr ?_; (case hd => rfl); (case hg => rfl); (case hr => first | (go_simp; done) | (go_simp; rfl)); intro aw hg w3 hbox hb; replace am := am_ (hbox); replace bi := am_ ((by rw [hg]; exact (below_size (b0_ HB.out)) : w.heap.size ≤ aw)); replace aN := am_ ((by rw [hg]; exact (below_size (b0_ HB.out)) : w.heap.size ≤ aw)); replace HB := am_ (below_step (b0_ HB.out) hb); clear hb hbox hg)))
  go_loopg [5] k (fun kq v5 w' => ∃ (aa : Int), v5 = .int .i64 aa ∧ Aside0 (spec_l6Any.l0 kq l1 aa l0_0 l0_1 = some r) ∧ Aside0 (kq ≤ k) ∧ Aside0 (w'.heap[aw]? = some (.cells #[(.slice A0_0 l0_0.length c0_0), (.slice A0_1 l0_1.length c0_1)] 27 (0, 0))) ∧ Aside0 (Below w.heap.size w w'))
  case atStart => exact ⟨(0), (by first | rfl | (simp; done) | (simp [*]; done)), H', ⟨Nat.le_refl _⟩, ⟨by refine rb_ ?_; exact am.out⟩, ⟨by exact zp26_0_ HB.out aN.out⟩⟩
  case round =>
    clear H'
    try clear c1
    try clear p2
    obtain ⟨aa, rfl, HA, HK1, am, HB⟩ := hrel
    cases gk with
    | zero => exact absurd HA.out (by simp [spec_l6Any.l0])
    | succ k1 =>
      have H := HA.out
      clear HA
      simp only [spec_l6Any.l0] at H
      by_cases c4 : aa < (l1.length : Int)
      · rw [if_pos c4] at H
        have c4b0 : decide (aa < (l1.length : Int)) = true := decide_eq_true c4
        clear c4
        by_cases c5 : 0 ≤ aa
        · rw [if_pos c5] at H
          have c5b0 : decide (0 ≤ aa) = true := decide_eq_true c5
          clear c5
          by_cases c6 : 0 ≤ (rd l1 aa)
          · rw [if_pos c6] at H
            have c6b0 : decide (0 ≤ (rd l1 aa)) = true := decide_eq_true c6
            clear c6
            by_cases c7 : (rd l1 aa) < (l0_0.length : Int)
            · rw [if_pos c7] at H
              have c7b0 : decide ((rd l1 aa) < (l0_0.length : Int)) = true := decide_eq_true c7
              clear c7
              obtain ⟨bq8, hbq8⟩ : ∃ b_ : Bool, b_ = (rdOf false l0_0 (rd l1 aa)) := ⟨_, rfl⟩
              replace H : (if bq8 = true then (some true) else (spec_l6Any.l0 k1 l1 (wrap64 (aa + 1)) l0_0 l0_1)) = some r := by rw [← hbq8] at H; exact H
              have Nbq8 := am_ hbq8
              clear hbq8
              by_cases c9 : bq8 = true
              · subst c9
                have H1 : (some true) = some r := by rw [if_pos rfl] at H; exact H
                clear H
                have H := H1
                clear H1
                obtain rfl := Option.some.inj H
                simp only [Option.some.injEq, Prod.mk.injEq] at H
                obtain ⟨rfl⟩ := H
                have bn := ck_ (v := (.slice A0_0 l0_0.length c0_0)) am 0 rfl
                have bo := ck_ (v := (.slice A0_1 l0_1.length c0_1)) am 1 rfl
                have bp := blk_frozen am.out 0
                have bq := blk_frozen am.out 1
                have p408 : 0 ≤ (aa : Int) := of_decide_eq_true ah_
                have q408 : aa < (l1.length : Int) := of_decide_eq_true ah_
                obtain ⟨bH, e408, au⟩ := Kd.at_int HR1.out aa p408 q408
                cases e408
                replace au := (HB.out.cell (World.block_lt_of_cell? w _ au)).trans au
                replace p408 := eq_true p408
                replace q408 := eq_true q408
                have p409 : 0 ≤ ((rd l1 aa) : Int) := of_decide_eq_true ah_
                have q409 : (rd l1 aa) < (l0_0.length : Int) := of_decide_eq_true ah_
                obtain ⟨bI, e409, an⟩ := Kd.at_bool aY.out (rd l1 aa) p409 q409
                (try rw [← Nbq8.out] at an)
                cases e409
                replace an := (HB.out.cell (World.block_lt_of_cell? w _ an)).trans an
                replace p409 := eq_true p409
                replace q409 := eq_true q409
                go_wp2
                repeat (go_quiet (fail); try go_wp2)
                go_ret
                exact ⟨by first | rfl | (simp [errW_none, errW_some] <;> rfl) | (simp [*, errW_none, errW_some] <;> rfl), by exact zp26_0_ HB.out aN.out⟩
              · replace c9 := Bool.eq_false_iff.mpr c9
                subst c9
                have H1 : (spec_l6Any.l0 k1 l1 (wrap64 (aa + 1)) l0_0 l0_1) = some r := by rw [if_neg (show ¬ (false = true) by decide)] at H; exact H
                clear H
                have H := H1
                clear H1
                have H' := am_ H
                clear H
                have br := ck_ (v := (.slice A0_0 l0_0.length c0_0)) am 0 rfl
                have bs := ck_ (v := (.slice A0_1 l0_1.length c0_1)) am 1 rfl
                have bt := blk_frozen am.out 0
                have bu := blk_frozen am.out 1
                have p408 : 0 ≤ (aa : Int) := of_decide_eq_true ah_
                have q408 : aa < (l1.length : Int) := of_decide_eq_true ah_
                obtain ⟨bH, e408, au⟩ := Kd.at_int HR1.out aa p408 q408
                cases e408
                replace au := (HB.out.cell (World.block_lt_of_cell? w _ au)).trans au
                replace p408 := eq_true p408
                replace q408 := eq_true q408
                have p409 : 0 ≤ ((rd l1 aa) : Int) := of_decide_eq_true ah_
                have q409 : (rd l1 aa) < (l0_0.length : Int) := of_decide_eq_true ah_
                obtain ⟨bI, e409, an⟩ := Kd.at_bool aY.out (rd l1 aa) p409 q409
                (try rw [← Nbq8.out] at an)
                cases e409
                replace an := (HB.out.cell (World.block_lt_of_cell? w _ an)).trans an
                replace p409 := eq_true p409
                replace q409 := eq_true q409
                go_wp2
                repeat (go_quiet (fail); try go_wp2)
                go_roundg k1
                case measure => have := HK1.out; omega
                case rel => exact ⟨(wrap64 (aa + 1)), (by first | rfl | (simp; done) | (simp [*]; done)), H', ⟨by have := HK1.out; omega⟩, ⟨by refine rb_ ?_; exact am.out⟩, ⟨by exact zp26_0_ HB.out aN.out⟩⟩
            · rw [if_neg c7] at H
              exact absurd H (by simp)
          · rw [if_neg c6] at H
            exact absurd H (by simp)
        · rw [if_neg c5] at H
          exact absurd H (by simp)
      · rw [if_neg c4] at H
        have c4b0 : decide (aa < (l1.length : Int)) = false := decide_eq_false c4
        clear c4
        obtain rfl := Option.some.inj H
        simp only [Option.some.injEq, Prod.mk.injEq] at H
        obtain ⟨rfl⟩ := H
        go_wp2
        repeat (go_quiet (fail); try go_wp2)
        go_ret
        exact ⟨by first | rfl | (simp [errW_none, errW_some] <;> rfl) | (simp [*, errW_none, errW_some] <;> rfl), by exact zp26_0_ HB.out aN.out⟩
end Go.Proofs.Ytogamkblkoobkaa.P
end
section
namespace Go.Proofs.Ytogamkblkoobkaa.P
open Go.RowKit Go.Proofs.YtogamkblkoobkaaW.PrintWords Go.Proofs.YtogamkblkoobkaaW.PrintLast Go.Proofs.YtogamkblkoobkaaW.PrintMore
attribute [local go_sem] max2_int min2_int max_two min_two max_three min_three max_four min_four
set_option linter.unusedVariables false
set_option linter.unusedSimpArgs false
end Go.Proofs.Ytogamkblkoobkaa.P
end
section
namespace Go.Proofs.Ytogamkblkoobkaa.Pl
open Go.RowKit Go.Proofs.Ytogamkblkoobkaa.P Go.Proofs.YtogamkblkoobkaaW.PrintWords Go.Proofs.YtogamkblkoobkaaW.PrintLast Go.Proofs.YtogamkblkoobkaaW.PrintMore Wk Rk
set_option linter.unusedVariables false
set_option linter.unusedSimpArgs false
theorem spec_ints_l0 (a b : List Int) (hl : a.length = b.length) (hn : a.length ≤ 1048576) : ∀ d i : Nat, i + d = a.length → Ev (fun k => spec_l5Ints.l0 k a b i) (decide (a.drop i = b.drop i)) := by
  intro d
  induction d with
  | zero =>
    intro i h
    refine next ?_
    simp only [spec_l5Ints.l0, if_neg (show ¬ (i : Int) < (a.length : Int) by omega)]
    exact ev_some (by rw [List.drop_eq_nil_of_le (by omega), List.drop_eq_nil_of_le (by omega)]; simp)
  | succ d ih =>
    intro i h
    refine next ?_
    have ha : i < a.length := by omega
    have hb : i < b.length := by omega
    have e : (a.drop i = b.drop i) ↔ (a[i] = b[i] ∧ a.drop (i + 1) = b.drop (i + 1)) := by
      rw [List.drop_eq_getElem_cons ha, List.drop_eq_getElem_cons hb]
      exact List.cons_eq_cons
    simp only [spec_l5Ints.l0, if_pos (show (i : Int) < (a.length : Int) by omega), if_pos (show (0 : Int) ≤ i by omega), if_pos (show (i : Int) < (b.length : Int) by omega), rd_get a i ha, rd_get b i hb]
    by_cases he : a[i] = b[i]
    · simp only [if_pos he, up1 (show i < 9223372036854775807 by omega)]
      exact ev_eq (ih (i + 1) (by omega)) (decide_eq_decide.mpr (by rw [e]; exact ⟨fun x => ⟨he, x⟩, fun x => x.2⟩))
    · simp only [if_neg he]
      exact ev_some (by rw [eq_comm, decide_eq_false_iff_not, e]; exact fun x => he x.1)
theorem spec_ints (a b : List Int) (hn : a.length ≤ 1048576) : Ev (fun k => spec_l5Ints.f k a b) (decide (a = b)) := by
  simp only [spec_l5Ints.f]
  by_cases h : a.length = b.length
  · simp only [if_pos (show (a.length : Int) = (b.length : Int) by omega)]
    exact spec_ints_l0 a b h hn a.length 0 (by omega)
  · simp only [if_neg (show ¬ (a.length : Int) = (b.length : Int) by omega)]
    exact ev_some (by simp; intro e; exact h (by rw [e]))
end Go.Proofs.Ytogamkblkoobkaa.Pl
end
section
namespace Go.Proofs.Ytogamkblkoobkaa.Can
open Go.RowKit Go.Proofs.Ytogamkblkoobkaa Go.Proofs.Ytogamkblkoobkaa.P Go.Proofs.Ytogamkblkoobkaa.Wk Go.Proofs.Ytogamkblkoobkaa.Lg Go.Proofs.Ytogamkblkoobkaa.Pl Go.Proofs.Ytogamkblkoobkaa.Mp Go.Proofs.Ytogamkblkoobkaa.Bf Go.Proofs.Ytogamkblkoobkaa.Mn Go.Proofs.YtogamkblkoobkaaW.PrintWords Go.Proofs.YtogamkblkoobkaaW.PrintLast Go.Proofs.YtogamkblkoobkaaW.PrintMore
set_option linter.unusedVariables false
set_option linter.unusedSimpArgs false
set_option linter.unusedSectionVars false
def putI (q : Int) : List Int → List Int
  | [] => [q]
  | y :: t => if y < q then y :: putI q t else if y = q then y :: t else q :: y :: t
abbrev Asc (l : List Int) : Prop := l.Pairwise (· < ·)
theorem putI_mem (q : Int) : ∀ (l : List Int) (y : Int), y ∈ putI q l ↔ y ∈ l ∨ y = q
  | [], y => by simp [putI]
  | x :: t, y => by
    rw [putI]
    split
    · rw [List.mem_cons, List.mem_cons, putI_mem q t y, or_assoc]
    · split
      · rename_i h; subst h; simp only [List.mem_cons]; constructor
        · exact Or.inl
        · rintro (h | h)
          · exact h
          · exact Or.inl h
      · simp only [List.mem_cons]; constructor
        · rintro (h | h | h)
          · exact Or.inr h
          · exact Or.inl (Or.inl h)
          · exact Or.inl (Or.inr h)
        · rintro ((h | h) | h)
          · exact Or.inr (Or.inl h)
          · exact Or.inr (Or.inr h)
          · exact Or.inl h
theorem putI_asc (q : Int) : ∀ (l : List Int), Asc l → Asc (putI q l)
  | [], _ => by simp [putI]
  | x :: t, h => by
    obtain ⟨h1, h2⟩ := List.pairwise_cons.mp h
    rw [putI]
    split
    · refine List.pairwise_cons.mpr ⟨fun y hy => ?_, putI_asc q t h2⟩
      rcases (putI_mem q t y).mp hy with hy | rfl
      · exact h1 y hy
      · assumption
    · split
      · exact h
      · refine List.pairwise_cons.mpr ⟨fun y hy => ?_, h⟩
        rcases List.mem_cons.mp hy with rfl | hy
        · omega
        · have := h1 y hy
          omega
theorem putI_len (q : Int) : ∀ (l : List Int), (putI q l).length ≤ l.length + 1
  | [] => by simp [putI]
  | x :: t => by
    have := putI_len q t
    rw [putI]
    split
    · simp only [List.length_cons]; omega
    · split <;> simp only [List.length_cons] <;> omega
theorem asc_ext : ∀ {a b : List Int}, Asc a → Asc b → (∀ y, y ∈ a ↔ y ∈ b) → a = b
  | [], [], _, _, _ => rfl
  | [], y :: t, _, _, h => absurd ((h y).mpr (by simp)) (by simp)
  | y :: t, [], _, _, h => absurd ((h y).mp (by simp)) (by simp)
  | x :: s, y :: t, ha, hb, h => by
    obtain ⟨a1, a2⟩ := List.pairwise_cons.mp ha
    obtain ⟨b1, b2⟩ := List.pairwise_cons.mp hb
    have e : x = y := by
      rcases List.mem_cons.mp ((h x).mp (by simp)) with e | e
      · exact e
      · rcases List.mem_cons.mp ((h y).mpr (by simp)) with e2 | e2
        · exact e2.symm
        · have := b1 x e
          have := a1 y e2
          omega
    subst e
    congr 1
    refine asc_ext a2 b2 fun z => ?_
    constructor
    · intro hz
      rcases List.mem_cons.mp ((h z).mp (List.mem_cons_of_mem _ hz)) with e | e
      · have := a1 z hz; omega
      · exact e
    · intro hz
      rcases List.mem_cons.mp ((h z).mpr (List.mem_cons_of_mem _ hz)) with e | e
      · have := b1 z hz; omega
      · exact e
theorem put_l0 (l : List Int) (q : Int) (hl : l.length ≤ 100000) : ∀ d i : Nat, i + d = l.length → Ev (fun k => spec_l6Put.l0 k l q (i : Int)) (l.take i ++ putI q (l.drop i))
  | 0, i, hi => by
    refine next ?_
    have hd : l.drop i = [] := List.drop_eq_nil_of_le (by omega)
    have ht : l.take i = l := List.take_of_length_le (by omega)
    simp only [spec_l6Put.l0, if_neg (show ¬ (i : Int) < (l.length : Int) by omega), if_pos (show (0 : Int) ≤ (i : Int) by omega), if_pos (show (i : Int) ≤ (l.length : Int) by omega), Option.bind_some, Int.toNat_natCast, hd, ht, List.nil_append, List.append_nil, List.length_nil, Nat.zero_add, List.length_append, List.length_cons, Nat.add_zero, if_pos (show l.length < 17592186044416 by omega), if_pos (show l.length + 1 < 17592186044416 by omega), putI]
    exact Ev.now _
  | d + 1, i, hi => by
    have h : i < l.length := by omega
    refine next ?_
    have hd : l.drop i = l[i] :: l.drop (i + 1) := List.drop_eq_getElem_cons h
    simp only [spec_l6Put.l0, if_pos (show (i : Int) < (l.length : Int) by omega), if_pos (show (0 : Int) ≤ (i : Int) by omega), rd_get l i h]
    rw [hd, putI]
    by_cases h1 : l[i] < q
    · simp only [if_pos h1]
      rw [up1 (by omega)]
      refine ev_eq (put_l0 l q hl d (i + 1) (by omega)) ?_
      rw [List.take_succ_eq_append_getElem h, List.append_assoc, List.singleton_append]
    · simp only [if_neg h1]
      by_cases h2 : l[i] = q
      · simp only [if_pos h2]
        refine ev_some ?_
        rw [← hd]
        simp
      · have ht : (l.take i).length = i := by rw [List.length_take]; omega
        simp only [if_neg h2, if_pos (show (i : Int) ≤ (l.length : Int) by omega), Option.bind_some, Int.toNat_natCast, List.nil_append, List.length_nil, Nat.zero_add, ht, List.length_append, List.length_cons, List.length_drop, if_pos (show i < 17592186044416 by omega), if_pos (show i + 1 + (l.length - i) < 17592186044416 by omega)]
        refine ev_some ?_
        rw [← hd]
        simp
theorem put_ev (l : List Int) (q : Int) (hl : l.length ≤ 100000) : Ev (fun k => spec_l6Put.f k l q) (putI q l) := by
  simp only [spec_l6Put.f]
  have := put_l0 l q hl l.length 0 (by omega)
  simpa using this
def sl (s : Int) : List Int := ((List.range 40).filter (fun q => bit s q)).map (fun q : Nat => (q : Int))
def Low (m : Nat) (s : Int) : Prop := U64 s ∧ ∀ p, bit s p = true → p < m
theorem sl_mem {m : Nat} {s : Int} (hm : m ≤ 40) (h : Low m s) (y : Int) : y ∈ sl s ↔ ∃ q : Nat, bit s q = true ∧ y = (q : Int) := by
  unfold sl
  rw [List.mem_map]
  constructor
  · rintro ⟨q, hq, rfl⟩
    exact ⟨q, (List.mem_filter.mp hq).2, rfl⟩
  · rintro ⟨q, hq, rfl⟩
    exact ⟨q, List.mem_filter.mpr ⟨List.mem_range.mpr (Nat.lt_of_lt_of_le (h.2 q hq) hm), hq⟩, rfl⟩
theorem sl_asc (s : Int) : Asc (sl s) := by
  unfold sl Asc
  rw [List.pairwise_map]
  refine List.Pairwise.imp (fun h => ?_) (List.Pairwise.filter _ List.pairwise_lt_range)
  omega
theorem sl_len (s : Int) : (sl s).length ≤ 40 := by
  unfold sl
  rw [List.length_map]
  exact Nat.le_trans (List.length_filter_le _ _) (by simp)
theorem sl_inj {m : Nat} {s t : Int} (hm : m ≤ 40) (hs : Low m s) (ht : Low m t) (h : sl s = sl t) : s = t := by
  refine bit_ext hs.1 ht.1 fun p => ?_
  have e : bit s p = true ↔ bit t p = true := by
    have h1 := sl_mem hm hs (p : Int)
    have h2 := sl_mem hm ht (p : Int)
    rw [h] at h1
    constructor
    · intro hb
      obtain ⟨q, hq, e⟩ := h2.mp (h1.mpr ⟨p, hb, rfl⟩)
      have : p = q := by omega
      rw [this]; exact hq
    · intro hb
      obtain ⟨q, hq, e⟩ := h1.mp (h2.mpr ⟨p, hb, rfl⟩)
      have : p = q := by omega
      rw [this]; exact hq
  cases h1 : bit s p <;> cases h2 : bit t p <;> simp_all
theorem sl_one : sl 1 = [0] := by
  unfold sl bit
  decide
theorem sl_zero : sl 0 = [] := by
  unfold sl bit
  decide
theorem low_zero {m : Nat} : Low m 0 := ⟨⟨by omega, by omega⟩, fun p hp => by unfold bit at hp; simp at hp⟩
section
variable {a : List Bool} {n : List (List Int)} {s : Int}
theorem low_mv (hf : Fits a n) (ha : a.length ≤ 40) (j : Nat) (hj : j < 3) : Low a.length (mvS n s (j : Int)) := by
  obtain ⟨h1, h2⟩ := mvS_bits (s := s) hf ha j hj
  refine ⟨h1, fun p hp => ?_⟩
  obtain ⟨z, h3, _, h4⟩ := (h2 p).mp hp
  obtain ⟨g1, g2⟩ := hf.row (z : Int) (by have := hf.len; omega)
  have := (g2 (rd (rowOf n (z : Int)) (j : Int)) (by rw [rd_get _ j (by omega)]; exact List.getElem_mem _)).2
  omega
theorem low_or (h : Low a.length s) (h1 : 1 ≤ a.length) : Low a.length (Go.bits .or .u64 s 1) := by
  obtain ⟨h2, h3⟩ := bit_one h.1
  refine ⟨h2, fun p hp => ?_⟩
  rw [h3, Bool.or_eq_true, decide_eq_true_iff] at hp
  rcases hp with hp | rfl
  · exact h.2 p hp
  · omega
theorem sl_or (ha : a.length ≤ 40) (h1 : 1 ≤ a.length) (h : Low a.length s) : putI 0 (sl s) = sl (Go.bits .or .u64 s 1) := by
  refine asc_ext (putI_asc 0 _ (sl_asc s)) (sl_asc _) fun y => ?_
  rw [putI_mem, sl_mem ha h, sl_mem ha (low_or h h1)]
  obtain ⟨_, h3⟩ := bit_one h.1
  constructor
  · rintro (⟨q, hq, rfl⟩ | rfl)
    · exact ⟨q, by rw [h3, hq, Bool.true_or], rfl⟩
    · exact ⟨0, by rw [h3]; simp, rfl⟩
  · rintro ⟨q, hq, rfl⟩
    rw [h3, Bool.or_eq_true, decide_eq_true_iff] at hq
    rcases hq with hq | rfl
    · exact Or.inl ⟨q, hq, rfl⟩
    · exact Or.inr rfl
def mvL (n : List (List Int)) (j : Int) : List Int → List Int → List Int
  | [], out => out
  | z :: t, out => mvL n j t (putI (rd (rowOf n z) j) out)
theorem mvL_asc (n : List (List Int)) (j : Int) : ∀ (l out : List Int), Asc out → Asc (mvL n j l out)
  | [], out, h => h
  | z :: t, out, h => mvL_asc n j t _ (putI_asc _ _ h)
theorem mvL_mem (n : List (List Int)) (j : Int) : ∀ (l out : List Int) (y : Int), y ∈ mvL n j l out ↔ y ∈ out ∨ ∃ z ∈ l, rd (rowOf n z) j = y
  | [], out, y => by simp [mvL]
  | z :: t, out, y => by
    rw [mvL, mvL_mem n j t _ y, putI_mem]
    constructor
    · rintro ((h | h) | ⟨w, hw, h⟩)
      · exact Or.inl h
      · exact Or.inr ⟨z, by simp, h.symm⟩
      · exact Or.inr ⟨w, List.mem_cons_of_mem _ hw, h⟩
    · rintro (h | ⟨w, hw, h⟩)
      · exact Or.inl (Or.inl h)
      · rcases List.mem_cons.mp hw with rfl | hw
        · exact Or.inl (Or.inr h.symm)
        · exact Or.inr ⟨w, hw, h⟩
theorem mvL_sl (hf : Fits a n) (ha : a.length ≤ 40) (h : Low a.length s) (j : Nat) (hj : j < 3) : mvL n (j : Int) (sl s) [] = sl (mvS n s (j : Int)) := by
  refine asc_ext (mvL_asc n _ _ _ List.Pairwise.nil) (sl_asc _) fun y => ?_
  have hm := low_mv (s := s) hf ha j hj
  rw [mvL_mem, sl_mem ha hm]
  obtain ⟨_, h2⟩ := mvS_bits (s := s) hf ha j hj
  have hl := hf.len
  constructor
  · rintro (h3 | ⟨z, hz, hy⟩)
    · cases h3
    · obtain ⟨q, hq, rfl⟩ := (sl_mem ha h z).mp hz
      have hq2 := h.2 q hq
      obtain ⟨g1, g2⟩ := hf.row (q : Int) (by omega)
      have := (g2 (rd (rowOf n (q : Int)) (j : Int)) (by rw [rd_get _ j (by omega)]; exact List.getElem_mem _)).1
      refine ⟨y.toNat, (h2 _).mpr ⟨q, by omega, hq, by omega⟩, by omega⟩
  · rintro ⟨q, hq, rfl⟩
    obtain ⟨z, h3, h4, h5⟩ := (h2 q).mp hq
    exact Or.inr ⟨(z : Int), (sl_mem ha h _).mpr ⟨z, h4, rfl⟩, h5⟩
theorem move_l0 (hf : Fits a n) (ha : a.length ≤ 40) (l : List Int) (hl : ∀ z ∈ l, 0 ≤ z ∧ z < (a.length : Int)) (hn : l.length ≤ 40) (j : Nat) (hj : j < 3) : ∀ (d i : Nat) (out : List Int), i + d = l.length → out.length ≤ i → Ev (fun k => spec_l6Move.l0 k l (j : Int) out (i : Int) a n) (mvL n (j : Int) (l.drop i) out)
  | 0, i, out, hi, ho => by
    refine next ?_
    rw [List.drop_eq_nil_of_le (by omega)]
    simp only [spec_l6Move.l0, if_neg (show ¬ (i : Int) < (l.length : Int) by omega), mvL]
    exact Ev.now _
  | d + 1, i, out, hi, ho => by
    have h : i < l.length := by omega
    refine next ?_
    rw [List.drop_eq_getElem_cons h]
    obtain ⟨z1, z2⟩ := hl l[i] (List.getElem_mem h)
    have hln := hf.len
    obtain ⟨g1, _⟩ := hf.row l[i] ⟨z1, z2⟩
    have hrow : rd_L1 n l[i] = rowOf n l[i] := rfl
    simp only [spec_l6Move.l0, if_pos (show (i : Int) < (l.length : Int) by omega), if_pos (show (0 : Int) ≤ (i : Int) by omega), rd_get l i h, if_pos z1, if_pos (show l[i] < (n.length : Int) by omega), if_pos (show (0 : Int) ≤ (j : Int) by omega), hrow, if_pos (show (j : Int) < ((rowOf n l[i]).length : Int) by omega), mvL]
    refine Ev.bind (put_ev out _ (by omega)) ?_
    rw [up1 (by omega)]
    exact move_l0 hf ha l hl hn j hj d (i + 1) _ (by omega) (by have := putI_len (rd (rowOf n l[i]) (j : Int)) out; omega)
theorem sl_range (ha : a.length ≤ 40) (h : Low a.length s) : ∀ z ∈ sl s, 0 ≤ z ∧ z < (a.length : Int) := fun z hz => by
  obtain ⟨q, hq, rfl⟩ := (sl_mem ha h z).mp hz
  have := h.2 q hq
  omega
theorem move_ev (hf : Fits a n) (ha : a.length ≤ 40) (h : Low a.length s) (j : Nat) (hj : j < 3) : Ev (fun k => spec_l6Move.f k a n (sl s) (j : Int)) (sl (mvS n s (j : Int))) := by
  simp only [spec_l6Move.f]
  rw [← mvL_sl hf ha h j hj]
  have := move_l0 hf ha (sl s) (sl_range ha h) (sl_len s) j hj (sl s).length 0 [] (by omega) (by simp)
  simpa using this
theorem any_l0 (ha : a.length ≤ 40) (l : List Int) (hl : ∀ z ∈ l, 0 ≤ z ∧ z < (a.length : Int)) (hn : l.length ≤ 40) : ∀ (d i : Nat), i + d = l.length → Ev (fun k => spec_l6Any.l0 k l (i : Int) a n) ((l.drop i).any (fun z => rdOf false a z))
  | 0, i, hi => by
    refine next ?_
    rw [List.drop_eq_nil_of_le (by omega)]
    simp only [spec_l6Any.l0, if_neg (show ¬ (i : Int) < (l.length : Int) by omega), List.any_nil]
    exact Ev.now _
  | d + 1, i, hi => by
    have h : i < l.length := by omega
    refine next ?_
    rw [List.drop_eq_getElem_cons h, List.any_cons]
    obtain ⟨z1, z2⟩ := hl l[i] (List.getElem_mem h)
    simp only [spec_l6Any.l0, if_pos (show (i : Int) < (l.length : Int) by omega), if_pos (show (0 : Int) ≤ (i : Int) by omega), rd_get l i h, if_pos z1, if_pos z2]
    cases hb : rdOf false a l[i] with
    | true =>
      simp only [if_true, Bool.true_or]
      exact Ev.now _
    | false =>
      simp only [Bool.false_eq_true, if_false, Bool.false_or]
      rw [up1 (by omega)]
      exact any_l0 ha l hl hn d (i + 1) (by omega)
theorem any_ev (ha : a.length ≤ 40) (h : Low a.length s) : Ev (fun k => spec_l6Any.f k a n (sl s)) (acS a s) := by
  simp only [spec_l6Any.f]
  have h1 := any_l0 (n := n) ha (sl s) (sl_range ha h) (sl_len s) (sl s).length 0 (by omega)
  have e : (sl s).any (fun z => rdOf false a z) = acS a s := by
    have : (sl s).any (fun z => rdOf false a z) = true ↔ acS a s = true := by
      rw [List.any_eq_true, acS_iff]
      constructor
      · rintro ⟨z, hz, hb⟩
        obtain ⟨q, hq, rfl⟩ := (sl_mem ha h z).mp hz
        exact ⟨q, h.2 q hq, hb, hq⟩
      · rintro ⟨p, _, hb, hp⟩
        exact ⟨(p : Int), (sl_mem ha h _).mpr ⟨p, hp, rfl⟩, hb⟩
    cases h1 : (sl s).any (fun z => rdOf false a z) <;> cases h2 : acS a s <;> simp_all
  rw [← e]
  simpa using h1
end
end Go.Proofs.Ytogamkblkoobkaa.Can
end
section
namespace Go.Proofs.Ytogamkblkoobkaa.Can
open Go.RowKit Go.Proofs.Ytogamkblkoobkaa Go.Proofs.Ytogamkblkoobkaa.P Go.Proofs.Ytogamkblkoobkaa.Wk Go.Proofs.Ytogamkblkoobkaa.Lg Go.Proofs.Ytogamkblkoobkaa.Pl Go.Proofs.Ytogamkblkoobkaa.Mp Go.Proofs.Ytogamkblkoobkaa.Bf Go.Proofs.Ytogamkblkoobkaa.Mn Go.Proofs.YtogamkblkoobkaaW.PrintWords Go.Proofs.YtogamkblkoobkaaW.PrintLast Go.Proofs.YtogamkblkoobkaaW.PrintMore
set_option linter.unusedVariables false
set_option linter.unusedSimpArgs false
abbrev Ss := S78
def find6 {α : Type} [DecidableEq α] (L : List α) (y : α) : Int := if y ∈ L then (L.idxOf y : Int) else -1
theorem ss_eq {x y : Ss} (h0 : x.f0 = y.f0) (h2 : x.f2 = y.f2) (h1 : x.f1 = y.f1) : x = y := by
  obtain ⟨a, b, c⟩ := x
  obtain ⟨a', b', c'⟩ := y
  cases h0
  cases h1
  cases h2
  rfl
theorem rd_map {α : Type} (en : α → Ss) (L : List α) (i : Nat) (h : i < L.length) : rd_T78 (L.map en) (i : Int) = en L[i] := by
  unfold rd_T78
  rw [Int.toNat_natCast, List.getD_eq_getElem?_getD, List.getElem?_eq_getElem (by simpa using h), Option.getD_some, List.getElem_map]
theorem find6_l0 {α : Type} [DecidableEq α] (en : α → Ss) (L : List α) (y : α) (hinj : ∀ x ∈ L, en x = en y → x = y) (hlen : ∀ x ∈ L, (en x).f1.length ≤ 40) (hL : L.length ≤ 100000) : ∀ d i : Nat, i + d = L.length → y ∉ L.take i → Ev (fun k => spec_l6Find.l0 k (L.map en) (i : Int) (en y).f0 (en y).f1 (en y).f2) (find6 L y)
  | 0, i, h, hx => by
    refine next ?_
    simp only [spec_l6Find.l0, if_neg (show ¬ (i : Int) < ((L.map en).length : Int) by rw [List.length_map]; omega)]
    rw [List.take_of_length_le (by omega)] at hx
    exact ev_some (by unfold find6; rw [if_neg hx])
  | d + 1, i, h, hx => by
    have hi : i < L.length := by omega
    have IH : L[i] ≠ y → Ev (fun k => spec_l6Find.l0 k (L.map en) ((i + 1 : Nat) : Int) (en y).f0 (en y).f1 (en y).f2) (find6 L y) := fun e => by
      refine find6_l0 en L y hinj hlen hL d (i + 1) (by omega) ?_
      rw [List.take_succ_eq_append_getElem hi]
      intro hm
      rcases List.mem_append.mp hm with q | q
      · exact hx q
      · rw [List.mem_singleton] at q
        exact e q.symm
    refine next ?_
    simp only [spec_l6Find.l0, if_pos (show (i : Int) < ((L.map en).length : Int) by rw [List.length_map]; omega), if_pos (show (0 : Int) ≤ (i : Int) by omega), rd_map en L i hi]
    rw [up1 (by omega)]
    have hne : ∀ {p : Prop}, (en L[i] = en y → p) → ¬ p → L[i] ≠ y := fun f hp e => hp (f (by rw [e]))
    by_cases c0 : (en L[i]).f0 = (en y).f0
    · simp only [if_pos c0]
      by_cases c2 : ((en L[i]).f2 == (en y).f2) = true
      · simp only [if_pos c2]
        refine Ev.bind (spec_ints _ _ (by have := hlen _ (List.getElem_mem hi); omega)) ?_
        by_cases c1 : (en L[i]).f1 = (en y).f1
        · simp only [c1, decide_true, if_true]
          have e : L[i] = y := hinj _ (List.getElem_mem hi) (ss_eq c0 (beq_iff_eq.mp c2) c1)
          refine ev_some ?_
          have hm : y ∈ L := e ▸ List.getElem_mem hi
          unfold find6
          rw [if_pos hm]
          have : L.idxOf y = i := by
            conv => lhs; rw [← List.take_append_drop i L, List.drop_eq_getElem_cons hi]
            rw [List.idxOf_append, if_neg hx, e, List.idxOf_cons_self]
            simp
            omega
          rw [this]
        · simp only [decide_eq_false c1, Bool.false_eq_true, if_false]
          exact IH (hne (p := (en L[i]).f1 = (en y).f1) (fun e => by rw [e]) c1)
      · simp only [if_neg c2]
        exact IH (hne (p := ((en L[i]).f2 == (en y).f2) = true) (fun e => by rw [e]; exact beq_self_eq_true _) c2)
    · simp only [if_neg c0]
      exact IH (hne (p := (en L[i]).f0 = (en y).f0) (fun e => by rw [e]) c0)
theorem find6_ev {α : Type} [DecidableEq α] (en : α → Ss) (L : List α) (y : α) (hinj : ∀ x ∈ L, en x = en y → x = y) (hlen : ∀ x ∈ L, (en x).f1.length ≤ 40) (hL : L.length ≤ 100000) : Ev (fun k => spec_l6Find.f k (L.map en) (en y).f0 (en y).f1 (en y).f2) (find6 L y) := by
  simp only [spec_l6Find.f]
  exact find6_l0 en L y hinj hlen hL L.length 0 (by omega) (by simp)
theorem find6_in {α : Type} [DecidableEq α] {L : List α} {y : α} (h : y ∈ L) : find6 L y = num L y := by
  unfold find6
  rw [if_pos h, num_eq h]
end Go.Proofs.Ytogamkblkoobkaa.Can
end
section
namespace Go.Proofs.Ytogamkblkoobkaa.Wk
open Go.RowKit Go.Shelf Go.Proofs.Ytogamkblkoobkaa.P Go.Proofs.Ytogamkblkoobkaa.Pl Go.Proofs.Ytogamkblkoobkaa.Mp Go.Proofs.Ytogamkblkoobkaa.Bf Go.Proofs.Ytogamkblkoobkaa.Mn Go.Proofs.YtogamkblkoobkaaW.PrintWords Go.Proofs.YtogamkblkoobkaaW.PrintLast Go.Proofs.YtogamkblkoobkaaW.PrintMore
set_option linter.unusedVariables false
set_option linter.unusedSimpArgs false
theorem results_ctt {P : Program} {fn : Func} {p u v : Tmp} {ty : TypeId} (h : fn.results = #[.cell p ty, .tmp u, .tmp v]) (tmps : Array Value) (w : World) (g : Nat) (t : TypeId) (cs : Array Value) (fr : Nat × Nat) (d : TypeDesc)
    (hp : tmps.getD p undef = .pointer (some ⟨g, 0, none⟩)) (hg : w.heap[g]? = some (.cells cs t fr))
    (hu : P.underlying ty = some d) (hd : (match d with | .struct _ | .array _ _ => true | _ => false) = true) (hi : (P.info? ty).map (·.size) = some cs.size) :
    (results fn tmps).run P w = .ok (.tuple #[.agg cs, tmps.getD u undef, tmps.getD v undef]) w := by
  have hp' : tmps[p]?.getD undef = .pointer (some ⟨g, 0, none⟩) := by simpa using hp
  simp [results, h, hp', asAddr, run_loadVar_row w g t ty cs fr d hg hu hd hi]
theorem S_over_map {P : Program} {k e : TypeId} {q : IntKind} {α β : Type} {enc : α → Value} {okk : α → Prop} {w w' : World} {b c : Nat} {m : α → Option Int} {d : Kd β} {e' base : Nat} {ok : Nat → Prop} {v : Value} {xs : List β} (h : Kd.S d e' w base ok v xs) (hM : MapIs P k e q enc okk w b m c) (hg : w.grownBy w' (some b)) : Kd.S d e' w' base ok v xs := by
  obtain ⟨f, h⟩ := h
  exact ⟨f, R_over_map h hM hg⟩
theorem map_ne {P : Program} {k e : TypeId} {q : IntKind} {α : Type} {enc : α → Value} {okk : α → Prop} {w : World} {b c g : Nat} {m : α → Option Int} {t : TypeId} {cells : Array Value} (hM : MapIs P k e q enc okk w b m c) (h : w.heap[g]? = some (.cells cells t (0, 0))) : some g ≠ some b := by
  obtain ⟨D, ⟨es, clock, hb, _⟩, _⟩ := hM
  intro he
  injection he with he
  subst he
  rw [h] at hb
  cases hb
section
variable {w w' w2 : World} {ok : Nat → Prop} {vl : Value} {gm g8 g13 : Nat} {L Lm : List Pr} {A : List Bool} {M : List (List Int)} {u0 u1 b0 b1 : Value}
theorem own_at {W : World} {v v1 : Value} {N : Nat} (hat : v1.ownBlock = v.ownBlock ∨ ∃ b, v1.ownBlock = some b ∧ W.heap.size ≤ b) (ho : ∀ k, v.ownBlock = some k → N ≤ k) (hs : N ≤ W.heap.size) : ∀ k, v1.ownBlock = some k → N ≤ k := fun k hk => by
  rcases hat with h | ⟨b, hb, hle⟩
  · exact ho k (h ▸ hk)
  · rw [hb] at hk
    injection hk with hk
    omega
end
end Go.Proofs.Ytogamkblkoobkaa.Wk
end
section
namespace Go.Proofs.Ytogamkblkoobkaa.Wk
open Go.RowKit Go.Shelf Go.Proofs.Ytogamkblkoobkaa.P Go.Proofs.Ytogamkblkoobkaa.Pl Go.Proofs.Ytogamkblkoobkaa.Mp Go.Proofs.Ytogamkblkoobkaa.Bf Go.Proofs.YtogamkblkoobkaaW.PrintWords Go.Proofs.YtogamkblkoobkaaW.PrintLast Go.Proofs.YtogamkblkoobkaaW.PrintMore
set_option linter.unusedVariables false
set_option linter.unusedSimpArgs false
def encR (x : Pr) : Value := .agg #[.int .i64 x.1, .int .u64 x.2]
abbrev wfR (x : Pr) : Prop := wfI x.1 ∧ (Lit.int .u64 x.2).wf = true
abbrev kdR : Kd Pr := Kd.pair (Kd.int .i64) (Kd.int .u64)
theorem keyR (x : Pr) (h : wfR x) : ∃ l, keyOf Try.prog 86 (encR x) = some l := by
  have hu := Try.underlying86
  have hk : Try.prog.keyType 86 = true := by kernel_rfl
  have hc : Try.prog.cellsOf 86 = 2 := by kernel_rfl
  have h3 : Try.prog.cellsOf 3 = 1 := by kernel_rfl
  have h8 : Try.prog.cellsOf 84 = 1 := by kernel_rfl
  have hui := Try.underlying3
  have hu8 := Try.underlying84
  obtain ⟨m, hm⟩ : ∃ m, Try.prog.types.size = m + 1 := ⟨Try.prog.types.size - 1, by have : 0 < Try.prog.types.size := of_decide_eq_true (by kernel_rfl); omega⟩
  unfold keyOf encR
  simp only [hu]
  rw [if_pos (by simp [hk, Value.formed, hu, hc])]
  rw [hm]
  unfold Program.keyLits
  simp only [hu, Value.cells]
  rw [if_pos (by rw [hc]; simp)]
  unfold Program.keyLits
  simp [hui, hu8, h3, h8, h.1, h.2]
theorem mapR : MapTy Try.prog 123 86 3 .i64 encR wfR where
  K := Go.Maps.Keyed.of_law (deep_law_laid laidOutP (m := 2) (by omega) (of_decide_eq_true (by kernel_rfl)) (by kernel_rfl) (by rw [Try.underlying86]))
  ht := Try.underlying123
  he := Try.underlying3
  hz := fun w => by kernel_rfl
  key := keyR
  inj := fun x y h => by
    unfold encR at h
    injection h with h
    have h1 := congrArg (fun z : Array Value => z[0]?) h
    have h2 := congrArg (fun z : Array Value => z[1]?) h
    simp at h1 h2
    exact Prod.ext h1 h2
theorem infoR : (Try.prog.info? 86).map (fun i => (i.zero, i.size, i.bytes)) = some (some (.agg #[.int .i64 0, .int .u64 0]), 2, 16) := by kernel_rfl
theorem at_reached {w : World} {A : Option Addr} {n : Nat} {xs : List Pr} (h : kdR.C w A n xs) (i : Nat) (hi : i < xs.length) (hn : n = xs.length) : ∃ ad, A = some ad ∧ w.cell? (ad.add (i * 2)) = some (.int .i64 xs[i].1) ∧ w.cell? ⟨(ad.add (i * 2)).block, (ad.add (i * 2)).off + 1, none⟩ = some (.int .u64 xs[i].2) := by
  obtain ⟨ad, c, hA, hl, hk, hc⟩ := Kd.C_get h (0, 0) (i : Int) (by omega) (by omega)
  rw [Int.toNat_natCast] at hk hc
  have e : xs.getD i (0, 0) = xs[i] := by rw [List.getD_eq_getElem?_getD, List.getElem?_eq_getElem hi]; rfl
  rw [e] at hk
  obtain ⟨c0, c1, rfl, h0, h1⟩ := hk
  have h0' : c0 = [.int .i64 xs[i].1] := h0
  have h1' : c1 = [.int .u64 xs[i].2] := h1
  subst h0'
  subst h1'
  have q0 := hc 0 _ rfl
  have q1 := hc 1 _ rfl
  refine ⟨ad, hA, q0, ?_⟩
  obtain ⟨b, o, sp⟩ := ad
  have hs : kdR.sz = 2 := rfl
  rw [hs] at q0 q1
  by_cases hi0 : i = 0
  · subst hi0
    have hsp : sp = none := by
      have := World.cell?_spot q0
      simpa [Addr.add] using this
    subst hsp
    simpa [Addr.add] using q1
  · have e1 : (⟨b, o, sp⟩ : Addr).add (i * 2) = ⟨b, o + i * 2, none⟩ := by simp [Addr.add] <;> omega
    have e2 : (⟨b, o, sp⟩ : Addr).add (i * 2 + 1) = ⟨b, o + i * 2 + 1, none⟩ := by simp [Addr.add] <;> omega
    rw [e1]
    rw [e2] at q1
    exact q1
abbrev IsMR (w : World) (b : Nat) (m : Pr → Option Int) (c : Nat) : Prop := MapIs Try.prog 86 3 .i64 encR wfR w b m c
end Go.Proofs.Ytogamkblkoobkaa.Wk
end
section
namespace Go.Proofs.Ytogamkblkoobkaa.Wk
open Go.RowKit Go.Shelf Go.Proofs.Ytogamkblkoobkaa.P Go.Proofs.Ytogamkblkoobkaa.Pl Go.Proofs.Ytogamkblkoobkaa.Mp Go.Proofs.Ytogamkblkoobkaa.Bf Go.Proofs.Ytogamkblkoobkaa.Mn Go.Proofs.YtogamkblkoobkaaW.PrintWords Go.Proofs.YtogamkblkoobkaaW.PrintLast Go.Proofs.YtogamkblkoobkaaW.PrintMore
set_option linter.unusedVariables false
set_option linter.unusedSimpArgs false
def T21y : Bool × List (List Nat × List Nat) := (true, [([], []), ([0], [0]), ([], []), ([], []), ([], []), ([3, 4], [3, 4]), ([5], [5]), ([2, 6], [2, 6]), ([7], [7]), ([1, 8, 7], [1, 8]), ([0, 1, 2, 3, 4, 5, 6, 7, 8, 9], []), ([10, 9, 9, 0, 1, 2, 3, 4, 5, 6, 7, 8, 9], [9, 10])])
def B21y : List Nat := [0, 1, 0, 0, 0, 24, 56, 124, 252, 511, 1023, 2047]
theorem tab21y : rtab .any (opsOf Try.f78 21) = T21y := by kernel_rfl
theorem bits21y : waitsOk T21y.2 B21y = true := by kernel_rfl
structure MemY (w w' : World) (ok : Nat → Prop) (vl : Value) (gm g8 g13 : Nat) (L Lm : List Pr) (A : List Bool) (M : List (List Int)) (u0 u1 b0 b1 : Value) : Prop where
  list : Kd.R kdR 86 w' w.heap.size (fun _ => True) vl L
  map : IsMR w' gm (idx Lm) Lm.length
  acc : Kd.R Kd.bool 4 w' w.heap.size (fun _ => True) u0 A
  rows : Kd.S (Kd.slice 3 (Kd.int .i64)) 67 w' w.heap.size ok u1 M
  box : w'.heap[g13]? = some (.cells #[b0, b1] 27 (0, 0))
  res : w'.heap[g8]? = some (.cells #[.slice none 0 0, .slice none 0 0] 27 (0, 0))
  bel : Below w.heap.size w w'
section
variable {w w' w2 : World} {ok : Nat → Prop} {vl : Value} {gm g8 g13 : Nat} {L Lm : List Pr} {A : List Bool} {M : List (List Int)} {u0 u1 b0 b1 : Value}
theorem MemY.below (h : MemY w w' ok vl gm g8 g13 L Lm A M u0 u1 b0 b1) (hb : Below w'.heap.size w' w2) : MemY w w2 ok vl gm g8 g13 L Lm A M u0 u1 b0 b1 :=
  ⟨Kd.R_below h.list hb, h.map.below hb, Kd.R_below h.acc hb, Kd.S_below h.rows hb, blk_below h.box hb, blk_below h.res hb, below_then h.bel h.bel.size hb⟩
theorem MemY.tight (h : MemY w w' ok vl gm g8 g13 L Lm A M u0 u1 b0 b1) : MemY w w' (fun b => b < w'.heap.size) vl gm g8 g13 L Lm A M u0 u1 b0 b1 :=
  ⟨h.list, h.map, h.acc, Kd.S_mono (Kd.S_bound h.rows) (fun b hb => hb.2.2.1), h.box, h.res, h.bel⟩
theorem MemY.mapped {Ln : List Pr} (h : MemY w w' ok vl gm g8 g13 L Lm A M u0 u1 b0 b1) (hg : w'.grownBy w2 (some gm)) (hgm : w.heap.size ≤ gm) (hm : IsMR w2 gm (idx Ln) Ln.length) : MemY w w2 ok vl gm g8 g13 L Ln A M u0 u1 b0 b1 :=
  ⟨R_over_map h.list h.map hg, hm, R_over_map h.acc h.map hg, S_over_map h.rows h.map hg, blk_grown h.box hg (map_ne h.map h.box), blk_grown h.res hg (map_ne h.map h.res), below_map h.bel hg hgm⟩
theorem MemY.listed {vn : Value} {Ln : List Pr} (h : MemY w w' ok vl gm g8 g13 L Lm A M u0 u1 b0 b1) (hg : w'.grownBy w2 vl.ownBlock) (ho : Kd.R kdR 86 w2 w.heap.size (fun _ => True) vn Ln) (hb : Below w.heap.size w w2) : MemY w w2 ok vn gm g8 g13 Ln Lm A M u0 u1 b0 b1 :=
  ⟨ho, h.map.kept hg (h.map.not_row (Kd.R_typed h.list)), Kd.R_over' h.acc (Kd.R_typed h.list) (by decide) hg, Kd.S_over' h.rows (Kd.R_typed h.list) (by decide) hg, blk_grown h.box hg (Kd.R_ne h.list h.box (by decide)), blk_grown h.res hg (Kd.R_ne h.list h.res (by decide)), hb⟩
theorem MemY.rowed {v : Value} {xs : List Int} {base : Nat} {okr : Nat → Prop} (h : MemY w w' ok vl gm g8 g13 L Lm A M u0 u1 b0 b1) (hr : Kd.R (Kd.int .i64) 3 w' base okr v xs) (hg : w'.grownBy w2 v.ownBlock) (hok : ∀ k, ok k → some k ≠ v.ownBlock) (hb : Below w.heap.size w w2) : MemY w w2 ok vl gm g8 g13 L Lm A M u0 u1 b0 b1 :=
  ⟨Kd.R_over' h.list (Kd.R_typed hr) (by decide) hg, h.map.kept hg (h.map.not_row (Kd.R_typed hr)), Kd.R_over' h.acc (Kd.R_typed hr) (by decide) hg, Kd.S_grown h.rows hg hok, blk_grown h.box hg (Kd.R_ne hr h.box (by decide)), blk_grown h.res hg (Kd.R_ne hr h.res (by decide)), hb⟩
theorem MemY.accd {vn : Value} {An : List Bool} (h : MemY w w' ok vl gm g8 g13 L Lm A M u0 u1 b0 b1) (hg : w'.grownBy w2 u0.ownBlock) (ho : Kd.R Kd.bool 4 w2 w.heap.size (fun _ => True) vn An) (hb : Below w.heap.size w w2) : MemY w w2 ok vl gm g8 g13 L Lm An M vn u1 b0 b1 :=
  ⟨Kd.R_over' h.list (Kd.R_typed h.acc) (by decide) hg, h.map.kept hg (h.map.not_row (Kd.R_typed h.acc)), ho, Kd.S_over' h.rows (Kd.R_typed h.acc) (by decide) hg, blk_grown h.box hg (Kd.R_ne h.acc h.box (by decide)), blk_grown h.res hg (Kd.R_ne h.acc h.res (by decide)), hb⟩
theorem MemY.rowsd {vn : Value} {Mn : List (List Int)} {okn : Nat → Prop} (h : MemY w w' ok vl gm g8 g13 L Lm A M u0 u1 b0 b1) (hg : w'.grownBy w2 u1.ownBlock) (ho : Kd.S (Kd.slice 3 (Kd.int .i64)) 67 w2 w.heap.size okn vn Mn) (hb : Below w.heap.size w w2) : MemY w w2 okn vl gm g8 g13 L Lm A Mn u0 vn b0 b1 :=
  ⟨Kd.R_over' h.list (Kd.S_typed h.rows) (by decide) hg, h.map.kept hg (h.map.not_row (Kd.S_typed h.rows)), Kd.R_over' h.acc (Kd.S_typed h.rows) (by decide) hg, ho, blk_grown h.box hg (Kd.S_ne h.rows h.box (by decide)), blk_grown h.res hg (Kd.S_ne h.rows h.res (by decide)), hb⟩
theorem MemY.put {v : Value} (h : MemY w w' ok vl gm g8 g13 L Lm A M u0 u1 b0 b1) (hn : g8 ≠ g13) (hl : w.heap.size ≤ g13) (j : Nat) {c0 c1 : Value} (hc : (#[b0, b1] : Array Value).set! j v = #[c0, c1]) (hbx : (w'.setCell ⟨g13, j, none⟩ v).heap[g13]? = some (.cells #[c0, c1] 27 (0, 0))) : MemY w (w'.setCell ⟨g13, j, none⟩ v) ok vl gm g8 g13 L Lm A M u0 u1 c0 c1 :=
  ⟨Kd.R_set h.list h.box (by decide) j v, h.map.kept (gb_set (gb_refl _ _) j v) (fun e => map_ne h.map h.box e.symm), Kd.R_set h.acc h.box (by decide) j v, Kd.S_set h.rows h.box (by decide) j v, hbx, blk_grown h.res (gb_set (gb_refl _ _) j v) (fun e => hn (Option.some.inj e)), below_set h.bel hl⟩
end
set_option maxHeartbeats 8000000 in
set_option maxRecDepth 100000 in
theorem explored_reached {dom : Pr → Prop} (most : Nat) (hm1 : 1 ≤ most) (hm : most ≤ 1000000) (acc : Pr → Bool) (nx : Pr → Nat → Pr) (x0 : Pr) (g1 g2 : Nat) (lb1 lb2 : Array Value)
    (eg1 : ∀ args w, (callFunc g1 args).run Try.prog w = .ok (.enter g1 args) w) (eg2 : ∀ args w, (callFunc g2 args).run Try.prog w = .ok (.enter g2 args) w) (w : World)
    (hd0 : dom x0) (hdn : ∀ x j, dom x → j < 3 → dom (nx x j)) (hwf : ∀ x, dom x → wfR x)
    (h1 : ∀ x, dom x → ∀ W, Below w.heap.size w W → Calls Try.prog g1 (#[.agg #[.int .i64 (x).1, .int .u64 (x).2]] ++ lb1) W fun e W' => e = .returned (.bool (acc x)) ∧ Below W.heap.size W W')
    (h2 : ∀ (x : Pr) (j : Nat), dom x → j < 3 → ∀ W, Below w.heap.size w W → Calls Try.prog g2 (#[.agg #[.int .i64 (x).1, .int .u64 (x).2], .int .i64 j] ++ lb2) W fun e W' => e = .returned (.agg #[.int .i64 (nx x j).1, .int .u64 (nx x j).2]) ∧ Below W.heap.size W W') :
    Calls Try.prog 78 #[.agg #[.int .i64 (x0).1, .int .u64 (x0).2], .int .i64 most, .func (.func g1) #[] lb1, .func (.func g2) #[] lb2] w fun e w' => ∃ v0 v1 vl : Value, e = .returned (.tuple #[.agg #[v0, v1], vl, .bool (expl acc nx most (most + 2) ([x0], [], []) 0).isSome]) ∧ Kd.R Kd.bool 4 w' w.heap.size (fun _ => True) v0 ((expl acc nx most (most + 2) ([x0], [], []) 0).getD ([], [], [])).2.1 ∧ Kd.S (Kd.slice 3 (Kd.int .i64)) 67 w' w.heap.size (fun _ => True) v1 ((expl acc nx most (most + 2) ([x0], [], []) 0).getD ([], [], [])).2.2 ∧ Below w.heap.size w w' := by
  generalize hR : expl acc nx most (most + 2) ([x0], [], []) 0 = r
  have HR := am_ hR
  have H1 := am_ h1
  have H2 := am_ h2
  have HD0 := am_ hd0
  have HD := am_ hdn
  have HW := am_ hwf
  have HX := am_ (hwf x0 hd0)
  have hu_ := am_ hm
  have HM1 := am_ hm1
  clear h1 h2 hdn hwf hd0 hm hm1 hR
  have hu27 := Try.underlying27
  obtain ⟨OX, hOX⟩ : ∃ o : Obj, o = Obj.cells #[Value.int IntKind.i64 x0.1, Value.int IntKind.u64 x0.2] 86 := ⟨_, rfl⟩
  obtain ⟨OD, hOD⟩ : ∃ o : Obj, o = Obj.cells #[Value.slice none 0 0, Value.slice none 0 0] 27 := ⟨_, rfl⟩
  have HC0 : Aside0 (World.cell? (((w.alloc OX).alloc OD).alloc OX) ⟨w.heap.size, 0, none⟩ = some (.int .i64 x0.1)) := ⟨by rw [hOX]; exact pw_cell_below (below_alloc (below_alloc (Below.refl _ _) _) _) (by simp)⟩
  have HC1 : Aside0 (World.cell? (((w.alloc OX).alloc OD).alloc OX) ⟨w.heap.size, 1, none⟩ = some (.int .u64 x0.2)) := ⟨by rw [hOX]; exact pw_cell_below (below_alloc (below_alloc (Below.refl _ _) _) _) (by simp)⟩
  have HLW : Aside0 (Kd.R kdR 86 (((w.alloc OX).alloc OD).alloc OX) w.heap.size (fun _ => True) (.slice (some ⟨w.heap.size + 1 + 1, 0, none⟩) 1 1) [x0]) := ⟨by
    have := R_here (okp := fun _ => True) (inner := [.int .i64 x0.1, .int .u64 x0.2]) kdR ((w.alloc OX).alloc OD) w.heap.size 86 (xs := [x0]) (Reps.snoc (Reps.none _ _) (show Kd.M kdR _ _ _ x0 [.int .i64 x0.1, .int .u64 x0.2] from ⟨[.int .i64 x0.1], [.int .u64 x0.2], rfl, rfl, rfl⟩) rfl) (by simp; omega) (by simp)
    rw [hOX]
    rw [hOX] at this
    simpa using this⟩
  have HR8 : Aside0 ((((w.alloc OX).alloc OD).alloc OX).heap[w.heap.size + 1]? = some (.cells #[.slice none 0 0, .slice none 0 0] 27 (0, 0))) := ⟨by
    have h0 := blk_new (w.alloc OX) OD
    have h1 := blk_alloc h0 OX
    rw [hOD] at h1 ⊢
    simpa using h1⟩
  have HBW : Aside0 (Below w.heap.size w (((w.alloc OX).alloc OD).alloc OX)) := ⟨below_alloc (below_alloc (below_alloc (Below.refl w.heap.size w) _) _) _⟩
  have HSZ : Aside0 ((((w.alloc OX).alloc OD).alloc OX).heap.size = w.heap.size + 1 + 1 + 1) := ⟨by simp⟩
  subst hOX
  subst hOD
  go_enter Try.func78, Try.ntmps78
  go_wp2_with (first
    | ((with_reducible refine gate_dst (N := 22) rfl ?_); refine wp_make (t := 123) (k := 86) (e := 3) (q := .i64) (enc := encR) (ok := wfR) rfl rfl ?_; intro w3 hm hb; have hm : IsMR w3 (w.heap.size + 1 + 1 + 1) (fun _ => none) 0 := HSZ.out ▸ hm; have hc0 := pw_cell_below hb HC0.out; have hc1 := pw_cell_below hb HC1.out; have HL := am_ (Kd.R_below HLW.out hb); have HR9 := am_ (blk_below HR8.out hb); have HM := am_ hm; have HB3 := bt_ HBW hb; clear hm hb)
    | (refine wp_insert mapR rfl _ _ _ rfl _ _ _ HM.out (by unfold maxLen; omega) rfl x0 rfl HX.out 0 rfl (by decide) ?_; intro w4 hm hgr; have HM2 := am_ hm; have HG4 := am_ hgr; clear hm hgr))
  have hb4 := below_alloc (Below.refl w4.heap.size w4) (Obj.cells #[Value.slice none 0 0, Value.slice none 0 0] 27)
  have hm4 : IsMR w4 (w.heap.size + 1 + 1 + 1) (idx [x0]) 1 := by have := HM2.out; rw [idx_one] at this; exact this
  have hM0 : MemY w (w4.alloc (Obj.cells #[Value.slice none 0 0, Value.slice none 0 0] 27)) (fun _ => True) (.slice (some ⟨w.heap.size + 1 + 1, 0, none⟩) 1 1) (w.heap.size + 1 + 1 + 1) (w.heap.size + 1) w4.heap.size [x0] [x0] [] [] (.slice none 0 0) (.slice none 0 0) (.slice none 0 0) (.slice none 0 0) :=
    ⟨Kd.R_below (R_over_map HL.out HM.out HG4.out) hb4, hm4.below hb4, Kd.R_nil _ _ _ _ _, Kd.S_nil _ _ _ _ _, blk_new w4 _, blk_below (blk_grown HR9.out HG4.out (map_ne HM.out HR9.out)) hb4, below_alloc (below_map HB3.out HG4.out (by omega)) _⟩
  have HMEM := am_ hM0
  have HGM : Aside0 (w.heap.size ≤ w.heap.size + 1 + 1 + 1) := ⟨by omega⟩
  have HG8 : Aside0 (w.heap.size ≤ w.heap.size + 1) := ⟨by omega⟩
  have HG13 : Aside0 (w.heap.size ≤ w4.heap.size) := ⟨(below_map HB3.out HG4.out (by omega)).size⟩
  have H813 : Aside0 (w.heap.size + 1 ≠ w4.heap.size) := ⟨fun h_ => by have h1_ := blk_lt (blk_grown HR9.out HG4.out (map_ne HM.out HR9.out)); omega⟩
  have HDL : Aside0 (∀ y ∈ [x0], dom y) := ⟨fun y hy => by rw [List.mem_singleton] at hy; subst hy; exact HD0.out⟩
  clear HL HR9 HM HM2 HB3 HG4 hM0 HC0 HC1 HLW HR8 HBW HSZ hc0 hc1 hb4 hm4
  generalize w4.alloc (Obj.cells #[Value.slice none 0 0, Value.slice none 0 0] 27) = ws at HMEM ⊢
  generalize w4.heap.size = g13 at HMEM HG13 H813 ⊢
  generalize w.heap.size + 1 + 1 + 1 = gm at HMEM HGM ⊢
  generalize w.heap.size + 1 = g8 at HMEM HG8 H813 ⊢
  go_loopg [11, 14] (most + 2) (fun gg v11 v14 wr => ∃ (p : Ex Pr) (i : Nat) (u0 u1 : Value), v14 = .int .i64 (i : Int) ∧ Aside0 (i ≤ p.1.length) ∧ Aside0 (most + 2 ≤ gg + i) ∧ Aside0 (p.1.length ≤ most) ∧ Aside0 (p.2.1.length = i ∧ p.2.2.length = i) ∧ Aside0 (expl acc nx most gg p i = r) ∧ Aside0 (∀ x ∈ p.1, dom x) ∧ Aside0 (MemY w wr (fun _ => True) v11 gm g8 g13 p.1 p.1 p.2.1 p.2.2 u0 u1 u0 u1))
  case atStart => exact ⟨([x0], [], []), 0, _, _, rfl, ⟨Nat.zero_le _⟩, ⟨by omega⟩, ⟨HM1.out⟩, ⟨⟨rfl, rfl⟩⟩, HR, HDL, HMEM⟩
  case round =>
    clear HMEM HR HDL
    obtain ⟨p, i, u0, u1, rfl, HI, HG, HLE, HLN, HR, HDL, HMEM⟩ := hrel
    cases gk with
    | zero => exact absurd HI.out (by have := HG.out; have := HLE.out; omega)
    | succ g =>
      obtain ⟨A11, c11, e11⟩ := Kd.R_slice HMEM.out.list
      subst e11
      obtain ⟨Aa, ca, ea⟩ := Kd.R_slice HMEM.out.acc
      subst ea
      obtain ⟨Ay, cy, ey⟩ := Kd.S_slice HMEM.out.rows
      subst ey
      have hr := HR.out
      rw [expl] at hr
      by_cases hi : i < p.1.length
      ·
        rw [dif_pos hi] at hr
        have hP1 : p.1[i]? = some p.1[i] := List.getElem?_eq_getElem hi
        have hdx := HDL.out _ (List.getElem_mem hi)
        generalize p.1[i] = x at hr hP1 hdx
        generalize hrr : exRow nx most x 3 0 p.1 [] = rr at hr
        have HRR := am_ hr
        have HER := am_ hrr
        have HP1 := am_ hP1
        have HDX := am_ hdx
        have HI2 := am_ hi
        have q1 : ((i : Int) < (p.1.length : Int)) = True := eq_true (by omega)
        clear hr hrr hP1 hdx hi HR HI
        go_wp2_with ((with_reducible refine gate_dst (N := 32) rfl ?_); refine Kd.R_lit (Kd.int .i64) _ 3 ?hg (N := 32) ?hd (xs := ([] : List Int)) (inner := []) (ok := fun _ => True) (okp := fun _ => True) ?hr ?hp (fun _ hk => hk) trivial (Below.refl _ _) (Nat.le_refl _) (by simp) ?_; (case hd => rfl); (case hg => rfl); (case hr => first | (go_simp; done) | (go_simp; rfl)); (case hp => exact (Reps.none _ _)); intro v15 w6 ho hb hg_ hnew_; clear hg_ hnew_; have HROW := am_ (Kd.R_lower ho HMEM.out.bel.size); have HOB := am_ (fun k => Kd.R_base ho k); have HB6 := am_ hb; clear ho hb)
        obtain ⟨W1, rfl⟩ : ∃ wo : World, wo = wr := ⟨_, rfl⟩
        have HMI := am_ ((HMEM.out.tight).below HB6.out)
        have HSW := am_ HB6.out.size
        have HLEP := HLE
        have HDLP := HDL
        have HPRE : Aside0 (p.1.length ≤ p.1.length) := ⟨Nat.le_refl _⟩
        clear HMEM HB6 q1
        go_loopg [11, 15, 33] 3 (fun gg v11 v15 v33 wr => ∃ (L : List Pr) (row : List Int) (j : Nat), v33 = .int .i64 (j : Int) ∧ Aside0 (j ≤ 3) ∧ Aside0 (3 ≤ gg + j) ∧ Aside0 (exRow nx most x (3 - j) j L row = rr) ∧ Aside0 (L.length ≤ most) ∧ Aside0 (p.1.length ≤ L.length) ∧ Aside0 (∀ y ∈ L, dom y) ∧ Aside0 (L[i]? = some x) ∧ Aside0 (row.length = j) ∧ Aside0 (MemY w wr (fun b => b < W1.heap.size) v11 gm g8 g13 L L p.2.1 p.2.2 (.slice Aa p.2.1.length ca) (.slice Ay p.2.2.length cy) (.slice Aa p.2.1.length ca) (.slice Ay p.2.2.length cy)) ∧ Aside0 (Kd.R (Kd.int .i64) 3 wr w.heap.size (fun _ => True) v15 row) ∧ Aside0 (∀ k, v15.ownBlock = some k → W1.heap.size ≤ k) ∧ Aside0 (W1.heap.size ≤ wr.heap.size))
        case atStart => exact ⟨p.1, [], 0, rfl, ⟨by omega⟩, ⟨by omega⟩, HER, HLE, HPRE, HDL, HP1, ⟨rfl⟩, HMI, HROW, HOB, HSW⟩
        case round =>
          clear HMI HROW HOB HSW HP1 HDL HLE HER HPRE
          obtain ⟨L, row, j, rfl, HJ, HGJ, HER, HLE, HPRE, HDL, HP1, HRL, HMEM, HROW, HOB, HSW⟩ := hrel
          obtain ⟨A11, c11, e11⟩ := Kd.R_slice HMEM.out.list
          subst e11
          obtain ⟨A15, c15, e15⟩ := Kd.R_slice HROW.out
          subst e15
          by_cases hj : j < 3
          ·
            cases gk with
            | zero => exact absurd HGJ.out (by omega)
            | succ g3 =>
            have hi2 : i < L.length := (List.getElem?_eq_some_iff.mp HP1.out).1
            have hx1 : L[i] = x := (List.getElem?_eq_some_iff.mp HP1.out).2
            obtain ⟨ad8, ea8, hx8, hx8b⟩ := at_reached (Kd.R_reads' HMEM.out.list).2.2 i (by omega) rfl
            subst ea8
            rw [hx1] at hx8 hx8b
            have HC := am_ (H2.out x j HDX.out hj)
            have hdy := HD.out x j HDX.out hj
            have HWY := am_ (HW.out _ hdy)
            have her := HER.out
            rw [show 3 - j = (3 - (j + 1)) + 1 by omega, exRow] at her
            have hsome := idx_some (s := L) (y := nx x j)
            generalize hy : nx x j = y at HC hdy HWY her hsome
            have p1 : ((0 : Int) ≤ (i : Int)) = True := eq_true (by omega)
            have q1 : ((i : Int) < (L.length : Int)) = True := eq_true (by omega)
            have q3 : ((j : Int) < (3 : Int)) = True := eq_true (by omega)
            have HJ3 := am_ hj
            have HI3 := am_ hi2
            have HDY := am_ hdy
            have HROL : Aside0 (row.length ≤ 3) := ⟨by have := HRL.out; omega⟩
            have HLEN : Aside0 ((L.length : Int) ≤ 1000000) := ⟨by have := HLE.out; have := hu_.out; omega⟩
            clear hi2 hx1 hdy hy hj HER
            by_cases hmem : y ∈ L
            ·
              rw [if_pos hmem] at her
              have hsome := idx_in hmem
              have HER := am_ her
              have HIX := am_ (idx_val hmem)
              clear her hmem
              go_wp2_with (first
                | (go_at_fn g2; refine (HC.out _ (by exact HMEM.out.bel)).mono ?_; rintro e W2 ⟨rfl, hb⟩; have HM1 := am_ (HMEM.out.below hb); have HROW1 := am_ (Kd.R_below HROW.out hb); have HSW1 := sz_ HSW hb; clear hb)
                | ((with_reducible refine gate_dst (N := 46) rfl ?_); have HM2 := am_ (HM1.out.below (below_alloc (Below.refl _ _) (Obj.cells #[Value.int IntKind.i64 y.1, Value.int IntKind.u64 y.2] 86))); have HROW2 := am_ (Kd.R_below HROW1.out (below_alloc (Below.refl _ _) (Obj.cells #[Value.int IntKind.i64 y.1, Value.int IntKind.u64 y.2] 86))); have HSW2 := am_ (Nat.le_trans HSW1.out (below_alloc (Below.refl W2.heap.size W2) (Obj.cells #[Value.int IntKind.i64 y.1, Value.int IntKind.u64 y.2] 86)).size); refine wp_look_ok mapR rfl _ _ rfl _ _ _ HM2.out.map rfl y rfl HWY.out ?_; rw [hsome]; generalize W2.alloc (Obj.cells #[Value.int IntKind.i64 y.1, Value.int IntKind.u64 y.2] 86) = W3 at HM2 HROW2 HSW2 ⊢)
                | (at_builtin; refine Kd.R_append (Kd.int .i64) (w0 := w) w.heap.size rfl (.tmp 65) (.tmp 67) 67 3 (.int .i64 0) 8 rfl Try.underlying67 info3 rfl (by decide) (by omega) (.slice A15 row.length c15) row ((idx L y).getD 0) [.int .i64 ((idx L y).getD 0)] (fun _ => True) (fun _ => False) rfl rfl ?aP (fun _ hk => hk.elim) ?aF ?aO ?aB ?aS ?aL ?_; (case aP => exact rfl); (case aF => exact (fun _ _ => trivial)); (case aO => exact HROW2.out); (case aB => exact HM2.out.bel); (case aS => exact HM2.out.bel.size); (case aL => have := HROL.out; omega); intro v5n w4 ho hb hg hat; have HROWN := am_ ho; have HMN := am_ (HM2.out.rowed HROW2.out hg (fun k hk he => by have := HOB.out k he.symm; omega) hb); have HOBN := am_ (own_at hat HOB.out HSW2.out); have HSWN := am_ (Nat.le_trans HSW2.out hg.size); clear ho hb hg hat))
              go_roundg g3
              case measure => omega
              case rel => exact ⟨L, row ++ [((idx L y).getD 0)], j + 1, by rw [up1 (by have := HJ3.out; omega)], ⟨HJ3.out⟩, ⟨by have := HGJ.out; omega⟩, HER, HLE, HPRE, HDL, HP1, ⟨by rw [List.length_append, HRL.out]; rfl⟩, HMN, HROWN, HOBN, HSWN⟩
            ·
              rw [if_neg hmem] at her
              have hsome := idx_out hmem
              have HU := am_ (idx_upd hmem)
              by_cases hmost : most < L.length + 1
              ·
                rw [if_pos hmost] at her
                have her2 := HRR.out
                rw [← her] at her2
                have e1 : r = none := her2.symm
                subst e1
                have kq : ((most : Int) < ((L.length + 1 : Nat) : Int)) = True := eq_true (by omega)
                have kq2 : ((most : Int) < (L.length : Int) + 1) = True := eq_true (by omega)
                have kq3 : decide ((most : Int) < (L.length : Int) + 1) = true := decide_eq_true (by omega)
                clear her her2 hmem hmost
                go_wp2_with (first
                  | (go_at_fn g2; refine (HC.out _ (by exact HMEM.out.bel)).mono ?_; rintro e W2 ⟨rfl, hb⟩; have HM1 := am_ (HMEM.out.below hb); clear hb)
                  | ((with_reducible refine gate_dst (N := 46) rfl ?_); have HGN : Aside0 (gm ≠ W2.heap.size) := ⟨by have := HM1.out.map.lt; omega⟩; have HM2 := am_ (HM1.out.below (below_alloc (Below.refl _ _) (Obj.cells #[Value.int IntKind.i64 y.1, Value.int IntKind.u64 y.2] 86))); refine wp_look_ok mapR rfl _ _ rfl _ _ _ HM2.out.map rfl y rfl HWY.out ?_; rw [hsome])
                  | (at_builtin; refine Kd.R_append kdR (w0 := w) w.heap.size rfl (.tmp 56) (.tmp 58) 88 86 (.agg #[.int .i64 0, .int .u64 0]) 16 rfl Try.underlying88 infoR rfl (by decide) (by omega) (.slice (some ad8) L.length c11) L y [.int .i64 y.1, .int .u64 y.2] (fun _ => True) (fun _ => False) rfl rfl ?aP (fun _ hk => hk.elim) ?aF ?aO ?aB ?aS ?aL ?_; (case aP => exact ⟨[.int .i64 y.1], [.int .u64 y.2], rfl, rfl, rfl⟩); (case aF => exact (fun _ _ => trivial)); (case aO => exact HM3.out.list); (case aB => exact HM3.out.bel); (case aS => exact HM3.out.bel.size); (case aL => have := HLEN.out; omega); intro v8n w3 ho hb hg hat; have HM4 := am_ (HM3.out.listed hg ho hb); obtain ⟨A8n, c8n, e8n⟩ := Kd.R_slice ho; rw [show (L ++ [y]).length = L.length + 1 by simp] at e8n; subst e8n; have hcz0 : w3.cell? ⟨g8, 0, none⟩ = some (.slice none 0 0) := (blk_cell HM4.out.res 0).trans rfl; have hcz1 : w3.cell? ⟨g8, 1, none⟩ = some (.slice none 0 0) := (blk_cell HM4.out.res 1).trans rfl; have hfz0 := blk_frozen HM4.out.res 0; have hfz1 := blk_frozen HM4.out.res 1; clear ho hb hg hat)
                  | (refine wp_update mapR rfl _ _ _ rfl _ _ _ HM2.out.map (by have := HLEN.out; unfold maxLen; omega) rfl y rfl HWY.out (L.length : Int) rfl (by have := HLEN.out; simp [Lit.wf, IntKind.min, IntKind.max, IntKind.signed, IntKind.bits]; omega) ?_; intro w2 hm hgr; rw [HU.out, if_neg (by rw [hsome]; decide)] at hm; have hcy0 := cell_grown hgr (a := ⟨W2.heap.size, 0, none⟩) (by simp) (fun h_ => HGN.out (Option.some.inj h_).symm) (v := .int .i64 y.1) (by simp); have hcy1 := cell_grown hgr (a := ⟨W2.heap.size, 1, none⟩) (by simp) (fun h_ => HGN.out (Option.some.inj h_).symm) (v := .int .u64 y.2) (by simp); have HM3 := am_ (HM2.out.mapped (Ln := L ++ [y]) hgr HGM.out (by rw [List.length_append]; exact hm)); clear hm hgr))
                have HT4 : Aside0 (((w3.setCell ⟨g8, 0, none⟩ (.slice none 0 0)).setCell ⟨g8, 1, none⟩ (.slice none 0 0)).heap[g8]? = some (.cells #[.slice none 0 0, .slice none 0 0] 27 (0, 0))) := ⟨blk_put (blk_put (cs' := #[.slice none 0 0, .slice none 0 0]) HM4.out.res 0 _ rfl) 1 _ rfl⟩
                refine bodyPost_ret (results_ctt rfl _ _ g8 27 #[.slice none 0 0, .slice none 0 0] (0, 0) _ rfl HT4.out Try.underlying27 rfl (by kernel_rfl)) rfl ?_
                exact ⟨_, _, _, rfl, Kd.R_nil _ _ _ _ _, Kd.S_nil _ _ _ _ _, below_set (below_set HM4.out.bel HG8.out) HG8.out⟩
              ·
                rw [if_neg hmost] at her
                have HER := am_ her
                have kq : ((most : Int) < ((L.length + 1 : Nat) : Int)) = False := eq_false (by omega)
                have kq2 : ((most : Int) < (L.length : Int) + 1) = False := eq_false (by omega)
                have kq3 : decide ((most : Int) < (L.length : Int) + 1) = false := decide_eq_false (by omega)
                have HMO := am_ (show L.length + 1 ≤ most by omega)
                clear her hmem hmost
                go_wp2_with (first
                  | (go_at_fn g2; refine (HC.out _ (by exact HMEM.out.bel)).mono ?_; rintro e W2 ⟨rfl, hb⟩; have HM1 := am_ (HMEM.out.below hb); have HROW1 := am_ (Kd.R_below HROW.out hb); have HSW1 := sz_ HSW hb; clear hb)
                  | ((with_reducible refine gate_dst (N := 46) rfl ?_); have HGN : Aside0 (gm ≠ W2.heap.size) := ⟨by have := HM1.out.map.lt; omega⟩; have HM2 := am_ (HM1.out.below (below_alloc (Below.refl _ _) (Obj.cells #[Value.int IntKind.i64 y.1, Value.int IntKind.u64 y.2] 86))); have HROW2 := am_ (Kd.R_below HROW1.out (below_alloc (Below.refl _ _) (Obj.cells #[Value.int IntKind.i64 y.1, Value.int IntKind.u64 y.2] 86))); have HSW2 := am_ (Nat.le_trans HSW1.out (below_alloc (Below.refl W2.heap.size W2) (Obj.cells #[Value.int IntKind.i64 y.1, Value.int IntKind.u64 y.2] 86)).size); refine wp_look_ok mapR rfl _ _ rfl _ _ _ HM2.out.map rfl y rfl HWY.out ?_; rw [hsome])
                  | (at_builtin; refine Kd.R_append kdR (w0 := w) w.heap.size rfl (.tmp 56) (.tmp 58) 88 86 (.agg #[.int .i64 0, .int .u64 0]) 16 rfl Try.underlying88 infoR rfl (by decide) (by omega) (.slice (some ad8) L.length c11) L y [.int .i64 y.1, .int .u64 y.2] (fun _ => True) (fun _ => False) rfl rfl ?aP (fun _ hk => hk.elim) ?aF ?aO ?aB ?aS ?aL ?_; (case aP => exact ⟨[.int .i64 y.1], [.int .u64 y.2], rfl, rfl, rfl⟩); (case aF => exact (fun _ _ => trivial)); (case aO => exact HM3.out.list); (case aB => exact HM3.out.bel); (case aS => exact HM3.out.bel.size); (case aL => have := HLEN.out; omega); intro v8n w3 ho hb hg hat; have HM4 := am_ (HM3.out.listed hg ho hb); have HROW4 := am_ (Kd.R_over' HROW3.out (Kd.R_typed HM3.out.list) (by decide) hg); have HSW4 := am_ (Nat.le_trans HSW3.out hg.size); obtain ⟨A8n, c8n, e8n⟩ := Kd.R_slice ho; rw [show (L ++ [y]).length = L.length + 1 by simp] at e8n; subst e8n; clear ho hb hg hat)
                  | (at_builtin; refine Kd.R_append (Kd.int .i64) (w0 := w) w.heap.size rfl (.tmp 65) (.tmp 67) 67 3 (.int .i64 0) 8 rfl Try.underlying67 info3 rfl (by decide) (by omega) (.slice A15 row.length c15) row ((L.length : Nat) : Int) [.int .i64 ((L.length : Nat) : Int)] (fun _ => True) (fun _ => False) rfl rfl ?bP (fun _ hk => hk.elim) ?bF ?bO ?bB ?bS ?bL ?_; (case bP => exact rfl); (case bF => exact (fun _ _ => trivial)); (case bO => exact HROW4.out); (case bB => exact HM4.out.bel); (case bS => exact HM4.out.bel.size); (case bL => have := HROL.out; omega); intro v5n w5 ho hb hg hat; have HROWN := am_ ho; have HMN := am_ (HM4.out.rowed HROW4.out hg (fun k hk he => by have := HOB.out k he.symm; omega) hb); have HOBN := am_ (own_at hat HOB.out HSW4.out); have HSWN := am_ (Nat.le_trans HSW4.out hg.size); clear ho hb hg hat)
                  | (refine wp_update mapR rfl _ _ _ rfl _ _ _ HM2.out.map (by have := HLEN.out; unfold maxLen; omega) rfl y rfl HWY.out (L.length : Int) rfl (by have := HLEN.out; simp [Lit.wf, IntKind.min, IntKind.max, IntKind.signed, IntKind.bits]; omega) ?_; intro w2 hm hgr; rw [HU.out, if_neg (by rw [hsome]; decide)] at hm; have hcy0 := cell_grown hgr (a := ⟨W2.heap.size, 0, none⟩) (by simp) (fun h_ => HGN.out (Option.some.inj h_).symm) (v := .int .i64 y.1) (by simp); have hcy1 := cell_grown hgr (a := ⟨W2.heap.size, 1, none⟩) (by simp) (fun h_ => HGN.out (Option.some.inj h_).symm) (v := .int .u64 y.2) (by simp); have HM3 := am_ (HM2.out.mapped (Ln := L ++ [y]) hgr HGM.out (by rw [List.length_append]; exact hm)); have HROW3 := am_ (R_over_map HROW2.out HM2.out.map hgr); have HSW3 := am_ (Nat.le_trans HSW2.out hgr.size); clear hm hgr))
                go_roundg g3
                case measure => omega
                case rel => exact ⟨L ++ [y], row ++ [((L.length : Nat) : Int)], j + 1, by rw [up1 (by have := HJ3.out; omega)], ⟨HJ3.out⟩, ⟨by have := HGJ.out; omega⟩, HER, ⟨by rw [List.length_append]; exact HMO.out⟩, ⟨by have := HPRE.out; rw [List.length_append]; omega⟩, ⟨fun z hz => (List.mem_append.mp hz).elim (HDL.out z) (fun q => by rw [List.mem_singleton] at q; subst q; exact HDY.out)⟩, ⟨by rw [List.getElem?_append_left HI3.out]; exact HP1.out⟩, ⟨by rw [List.length_append, HRL.out]; rfl⟩, HMN, HROWN, HOBN, HSWN⟩
          ·
            have ej : j = 3 := by have := HJ.out; omega
            subst ej
            have d3 : decide (((3 : Nat) : Int) < 3) = false := by decide
            have her := HER.out
            rw [show 3 - 3 = 0 from rfl, exRow] at her
            have hr := HRR.out
            rw [← her] at hr
            have HEN : Aside0 (expl acc nx most g (L, p.2.1 ++ [acc x], p.2.2 ++ [row]) (i + 1) = r) := ⟨hr⟩
            have hi2 : i < L.length := (List.getElem?_eq_some_iff.mp HP1.out).1
            have hx1 : L[i] = x := (List.getElem?_eq_some_iff.mp HP1.out).2
            obtain ⟨ad8, ea8, hx8, hx8b⟩ := at_reached (Kd.R_reads' HMEM.out.list).2.2 i (by omega) rfl
            subst ea8
            rw [hx1] at hx8 hx8b
            have hx0 : wr.cell? ⟨g13, 0, none⟩ = some (.slice Aa p.2.1.length ca) := (blk_cell HMEM.out.box 0).trans rfl
            have HI3 := am_ hi2
            have p1 : ((0 : Int) ≤ (i : Int)) = True := eq_true (by omega)
            have q1 : ((i : Int) < (L.length : Int)) = True := eq_true (by omega)
            have HLENS : Aside0 (p.2.1.length ≤ 1000000 ∧ p.2.2.length ≤ 1000000) := ⟨by have := HLN.out; have := HLE.out; have := hu_.out; omega⟩
            have HM5 := am_ (HMEM.out.below (below_drew1 (Below.refl _ _)))
            have HROW5 := am_ (Kd.R_drew HROW.out)
            clear her hr hi2 hx1 hj HMEM HROW HER
            go_wp2
            refine start_ (n := 12) (S := (fun w' => w'.cell? ⟨g13, 0, none⟩ = some (.slice Aa p.2.1.length ca) ∧ w'.cell? (ad8.add (i * 2)) = some (.int .i64 x.1) ∧ w'.cell? ⟨(ad8.add (i * 2)).block, (ad8.add (i * 2)).off + 1, none⟩ = some (.int .u64 x.2))) (ds := [9, 11]) (bl 12 0) (by kernel_rfl) rfl rfl (⟨hx0, hx8, hx8b⟩) (fun hHeld => ?_); refine with_tabW tab21y bits21y (fun HT_ HW_ => ?_)
            clear hx0 hx8 hx8b
            generalize wr.drew = w8 at HM5 HROW5 hHeld ⊢
            refine ph_ 0 70 (bl 12 1) HT_ ?_
            refine ph_ 2 72 (bl 12 5) HT_ ?_
            refine ph_ 3 73 (bl 12 13) HT_ ?_
            refine ph_ 4 74 (bl 12 29) HT_ ?_
            refine ph_ 5 75 (bl 12 61) HT_ ?_
            refine th_ 1 71 (bl 12 63) HT_ HW_ hHeld ?_
            refine th_ 6 76 (bl 12 127) HT_ HW_ hHeld ?_
            refine on_ 7 (some 77) (bl 12 255) HT_ (fun K hK => ?_)
            refine goesFn_ g1 lb1 (.tmp 72) #[.agg #[.int .i64 x.1, .int .u64 x.2]] eg1 (by rfl) rfl (by rfl) (by rfl) (by (try simp only [List.map_toArray, List.map_cons, List.map_nil]); first | done | rfl) ?_
            refine (H1.out x HDX.out _ (by exact HM5.out.bel)).mono ?_
            rintro e W2 ⟨rfl, hb⟩
            refine ⟨_, rfl, ?_⟩
            have HM6 := am_ (HM5.out.below hb)
            have HROW6 := am_ (Kd.R_below HROW5.out hb)
            clear HM5 HROW5
            refine hK.out _ _ (⟨pw_cell_below hb hHeld.1, pw_cell_below hb hHeld.2.1, pw_cell_below hb hHeld.2.2⟩) (fun hHeld => ?_)
            clear hK K
            refine nm_ 77 ?_
            refine on_ 8 (some 78) (bl 12 511) HT_ (fun K hK => ?_)
            refine value_ (w1 := ?_) (v := ?_) (by rfl) rfl ?_ ?_
            rotate_left 2
            · go_simp
              constructor
              · rfl
              · rfl
            refine hK.out _ _ (⟨cell_al _ hHeld.1, cell_al _ hHeld.2.1, cell_al _ hHeld.2.2⟩) (fun hHeld => ?_)
            clear hK K
            refine nm_ 78 ?_
            refine last_ (i := 9) (N := some 79) (bl 12 1023) rfl rfl (one_of HT_.out (by kernel_rfl)) (by decide) (fun K hK => ?_)
            refine Kd.R_append_step Kd.bool (w0 := w) w.heap.size (by rfl) (.tmp 71) (.tmp 78) 22 4 (.bool false) 1 rfl Try.underlying22 info4 rfl (by decide) (by omega) (.slice Aa p.2.1.length ca) p.2.1 (acc x) [.bool (acc x)] (fun _ => True) (fun _ => False) rfl rfl ?aP (fun _ hk => hk.elim) ?aF ?aO ?aB ?aS ?aL ?_
            (case aP => exact rfl)
            (case aF => exact (fun _ _ => trivial))
            (case aO => exact HM6.out.acc)
            (case aB => exact HM6.out.bel)
            (case aS => exact HM6.out.bel.size)
            (case aL => have := HLENS.out; omega)
            intro v22 w9 ho hb2 hg hat
            have HM9 := am_ (HM6.out.accd hg ho hb2)
            have HROW9 := am_ (Kd.R_over' HROW6.out (Kd.R_typed HM6.out.acc) (by decide) hg)
            obtain ⟨A22, c22, e22⟩ := Kd.R_slice ho
            rw [show (p.2.1 ++ [acc x]).length = p.2.1.length + 1 by simp] at e22
            subst e22
            clear ho hb hb2 hg hat HM6 HROW6
            refine hK.out _ _ ?_
            clear hK K
            refine nm_ 79 ?_
            refine ph_ 10 80 (bl 12 2047) HT_ ?_
            refine last_ (i := 11) (N := none) (bl 12 4095) rfl rfl (one_of HT_.out (by kernel_rfl)) (by decide) (fun K hK => ?_)
            have hs54 : w9.cell? ⟨g13, 0, none⟩ = some (.slice Aa p.2.1.length ca) := (blk_cell HM9.out.box 0).trans rfl
            have hfs54 := blk_frozen HM9.out.box 0
            refine skip_ (w1 := ?_) (by rfl) rfl ?_ ?_
            rotate_left
            · go_simp
              rfl
            refine hK.out _ _ ?_
            clear hK K hs54 hfs54
            refine done_ (done_of HT_.out (by kernel_rfl)) ?_
            have HM1 := am_ (HM9.out.put (v := (.slice A22 (p.2.1.length + 1) c22)) H813.out HG13.out 0 rfl (blk_put HM9.out.box 0 _ rfl))
            have HROW1 := am_ (Kd.R_set HROW9.out HM9.out.box (by decide) 0 (.slice A22 (p.2.1.length + 1) c22))
            clear HM9 HROW9 HT_ HW_
            generalize w9.setCell ⟨g13, 0, none⟩ (.slice A22 (p.2.1.length + 1) c22) = w1 at HM1 HROW1 ⊢
            have hcz0 : w1.cell? ⟨g13, 0, none⟩ = some (.slice A22 (p.2.1.length + 1) c22) := (blk_cell HM1.out.box 0).trans rfl
            have hcz1 : w1.cell? ⟨g13, 1, none⟩ = some (.slice Ay p.2.2.length cy) := (blk_cell HM1.out.box 1).trans rfl
            have hfz1 := blk_frozen HM1.out.box 1
            go_wp2_with ((with_reducible refine gate_builtin (b := .append) (xs := #[.tmp 82, .tmp 84]) rfl ?_); at_builtin; refine Kd.S_append (Kd.slice 3 (Kd.int .i64)) (w0 := w) w.heap.size rfl (.tmp 82) (.tmp 84) 23 67 (.slice none 0 0) 24 rfl Try.underlying23 info67 rfl (by decide) (by omega) (.slice Ay p.2.2.length cy) p.2.2 row [.slice A15 row.length c15] (fun _ => True) (fun b => some b = (.slice A15 row.length c15 : Value).ownBlock) rfl rfl ?aP ?aK ?aF ?aO ?aB ?aS ?aL ?_; (case aP => exact Kd.M_row (Kd.R_tight rfl HROW1.out)); (case aK => exact (fun b hb => ⟨trivial, fun he => by have h1 := HOB.out b hb.symm; have h2 := (Kd.S_R HM1.out.rows).1 b he.symm; omega⟩)); (case aF => exact (fun _ _ => trivial)); (case aO => exact Kd.S_mono HM1.out.rows (fun b hb => ⟨trivial, fun he => by have h1 := HOB.out b he.symm; omega⟩)); (case aB => exact HM1.out.bel); (case aS => exact HM1.out.bel.size); (case aL => have := HLENS.out; omega); intro v23 w2 ho hb hg hat; have HM2 := am_ (HM1.out.rowsd hg ho hb); obtain ⟨A23, c23, e23⟩ := Kd.S_slice ho; rw [show (p.2.2 ++ [row]).length = p.2.2.length + 1 by simp] at e23; subst e23; clear ho hb hg hat hcz0 hcz1 hfz1; have hcz1 : w2.cell? ⟨g13, 1, none⟩ = some (.slice Ay p.2.2.length cy) := (blk_cell HM2.out.box 1).trans rfl; have hfz1 := blk_frozen HM2.out.box 1)
            go_roundg g
            case measure => omega
            case rel => exact ⟨(L, p.2.1 ++ [acc x], p.2.2 ++ [row]), i + 1, _, _, by rw [up1 (by have := HI3.out; have := HLE.out; have := hu_.out; omega)], ⟨HI3.out⟩, ⟨by have := HG.out; omega⟩, HLE, ⟨by have := HLN.out; simp; omega⟩, HEN, HDL, ⟨HM2.out.put (v := (.slice A23 (p.2.2.length + 1) c23)) H813.out HG13.out 1 rfl (blk_put HM2.out.box 1 _ rfl)⟩⟩
      ·
        rw [dif_neg hi] at hr
        subst hr
        have q1 : ((i : Int) < (p.1.length : Int)) = False := eq_false (by omega)
        have hcz0 : wr.cell? ⟨g13, 0, none⟩ = some (.slice Aa p.2.1.length ca) := (blk_cell HMEM.out.box 0).trans rfl
        have hcz1 : wr.cell? ⟨g13, 1, none⟩ = some (.slice Ay p.2.2.length cy) := (blk_cell HMEM.out.box 1).trans rfl
        have hcy0 : wr.cell? ⟨g8, 0, none⟩ = some (.slice none 0 0) := (blk_cell HMEM.out.res 0).trans rfl
        have hcy1 : wr.cell? ⟨g8, 1, none⟩ = some (.slice none 0 0) := (blk_cell HMEM.out.res 1).trans rfl
        have hfy0 := blk_frozen HMEM.out.res 0
        have hfy1 := blk_frozen HMEM.out.res 1
        have HB4' : Aside0 ((wr.setCell ⟨g8, 0, none⟩ (.slice Aa p.2.1.length ca)).heap[g8]? = some (.cells #[.slice Aa p.2.1.length ca, .slice none 0 0] 27 (0, 0))) := ⟨blk_put HMEM.out.res 0 _ rfl⟩
        have HT4 : Aside0 (((wr.setCell ⟨g8, 0, none⟩ (.slice Aa p.2.1.length ca)).setCell ⟨g8, 1, none⟩ (.slice Ay p.2.2.length cy)).heap[g8]? = some (.cells #[.slice Aa p.2.1.length ca, .slice Ay p.2.2.length cy] 27 (0, 0))) := ⟨blk_put HB4'.out 1 _ rfl⟩
        clear hi
        go_wp2
        refine bodyPost_ret (results_ctt rfl _ _ g8 27 #[.slice Aa p.2.1.length ca, .slice Ay p.2.2.length cy] (0, 0) _ rfl HT4.out Try.underlying27 rfl (by kernel_rfl)) rfl ?_
        exact ⟨_, _, _, rfl, Kd.R_set (Kd.R_set HMEM.out.acc HMEM.out.res (by decide) 0 _) HB4'.out (by decide) 1 _, Kd.S_set (Kd.S_set HMEM.out.rows HMEM.out.res (by decide) 0 _) HB4'.out (by decide) 1 _, below_set (below_set HMEM.out.bel HG8.out) HG8.out⟩
end Go.Proofs.Ytogamkblkoobkaa.Wk
end
section
namespace Go.Proofs.Ytogamkblkoobkaa.P
open Go.RowKit Go.Proofs.YtogamkblkoobkaaW.PrintWords Go.Proofs.YtogamkblkoobkaaW.PrintLast Go.Proofs.YtogamkblkoobkaaW.PrintMore
attribute [local go_sem] max2_int min2_int max_two min_two max_three min_three max_four min_four
set_option linter.unusedVariables false
set_option linter.unusedSimpArgs false
def impl_fitting.f (l0_0 : List Bool) (l0_1 : List (List Int)) : Option (List Bool × (List (List Int)) × Bool) := (impl_minimized.f l0_0 l0_1 0).bind fun bt276 => (if (bt276.1.length : Int) > 40 then (some (([] : List Bool), ([] : List (List Int)), false)) else (some (bt276.1, bt276.2, true)))
set_option maxHeartbeats 8000000 in
set_option maxRecDepth 100000 in
theorem impl_fitting.calls (A0_0 : Option Addr) (c0_0 : Nat) (l0_0 : List Bool) (A0_1 : Option Addr) (c0_1 : Nat) (l0_1 : List (List Int)) (r1 : List Bool) (r2 : List (List Int)) (r3 : Bool) (w : World) (hr0_0 : Kd.C Kd.bool w A0_0 l0_0.length l0_0) (hc0_0 : l0_0.length ≤ c0_0) (hr0_1 : Kd.C (Kd.slice 3 (Kd.int .i64)) w A0_1 l0_1.length l0_1) (hc0_1 : l0_1.length ≤ c0_1) (h : impl_fitting.f l0_0 l0_1 = some (r1, r2, r3)) :
  Calls Try.prog 68 #[.agg #[.slice A0_0 l0_0.length c0_0, .slice A0_1 l0_1.length c0_1]] w fun e w' => ∃ v0_ v1_ : Value, e = .returned (.tuple #[.agg #[v0_, v1_], .bool r3]) ∧ Kd.R Kd.bool 4 w' w.heap.size (fun _ => True) v0_ r1 ∧ Kd.S (Kd.slice 3 (Kd.int .i64)) 67 w' w.heap.size (fun _ => True) v1_ r2 ∧ Below w.heap.size w w' := by
 have hu27 := Try.underlying27
 have aA := am_ hr0_0
 have aB := am_ hc0_0
 clear hr0_0 hc0_0
 have aC := am_ hr0_1
 have aD := am_ hc0_1
 clear hr0_1 hc0_1
 have HB := am_ (Below.refl w.heap.size w)
 have H : ((impl_minimized.f l0_0 l0_1 0).bind fun bt276 => (if (bt276.1.length : Int) > 40 then (some (([] : List Bool), ([] : List (List Int)), false)) else (some (bt276.1, bt276.2, true)))) = some (r1, r2, r3) := h
 clear h
 replace H := Option.bind_eq_some_iff.mp H
 obtain ⟨⟨ak, au⟩, A20, H⟩ := H
 have A2 := am_ A20
 clear A20
 by_cases c3 : (ak.length : Int) > 40
 ·rw [if_pos c3] at H
  have c3b0 : decide (40 < (ak.length : Int)) = true := decide_eq_true c3
  have c3b1 : decide (40 < ak.length) = true := decide_eq_true (by omega)
  clear c3
  simp only [Option.some.injEq, Prod.mk.injEq] at H
  obtain ⟨rfl, rfl, rfl⟩ := H
  go_enter Try.func68, Try.ntmps68
  go_wp2_with (first | ((with_reducible refine gate_dst (N := 1) rfl ?_); refine box_event ?hg (N := 1) ?hd (cs := #[.slice A0_0 l0_0.length c0_0, .slice A0_1 l0_1.length c0_1]) (t := 27) ?hr ?_; (case hd => rfl); (case hg => rfl); (case hr => first | (go_simp; done) | (go_simp; rfl)); intro ai hg w4 hbox hb; replace aa := am_ (hbox); replace aE := am_ ((by rw [hg]; exact (below_size (b0_ HB.out)) : w.heap.size ≤ ai)); replace ad := am_ ((by rw [hg]; exact (below_size (b0_ HB.out)) : w.heap.size ≤ ai)); replace HB := am_ (below_step (b0_ HB.out) hb); clear hb hbox hg) | ((with_reducible refine gate_dst (N := 2) rfl ?_); refine box_event ?hg (N := 2) ?hd (cs := #[.slice none 0 0, .slice none 0 0]) (t := 27) ?hr ?_; (case hd => rfl); (case hg => rfl); (case hr => first | (go_simp; done) | (go_simp; rfl)); intro ae hg w5 hbox hb; have n0_ := am_ (blk_below (rb_ aa.out) hb); have n1_ := am_ (below_step (b1_ HB.out ad.out) hb); have n2_ := am_ (hbox); have n3_ := am_ ((by rw [hg]; exact (below_size (b1_ HB.out ad.out)) : w.heap.size ≤ ae)); have n4_ := am_ ((by rw [hg]; exact (below_size (b1_ HB.out ad.out)) : w.heap.size ≤ ae)); have n5_ := am_ ((by rw [hg]; exact Nat.ne_of_lt (blk_lt (rb_ aa.out)) : ai ≠ ae)); have n6_ := am_ ((by rw [hg]; exact Nat.ne_of_gt (blk_lt (rb_ aa.out)) : ae ≠ ai)); clear aa; clear HB; have aa := n0_; have HB := n1_; have ab := n2_; have aF := n3_; have ag := n4_; have an := n5_; have ao := n6_; clear n0_ n1_ n2_ n3_ n4_ n5_ n6_; clear hb hbox hg; have bv := an.out; have bw := ao.out; have bh := ck_ (v := (.slice A0_0 l0_0.length c0_0)) aa 0 rfl; have bi := ck_ (v := (.slice A0_1 l0_1.length c0_1)) aa 1 rfl; have bj := blk_frozen aa.out 0; have bk := blk_frozen aa.out 1) | ((with_reducible refine gate_callee (f := 56) rfl ?_); refine gL_ (some 6) Try.func56 #[.agg #[.slice A0_0 l0_0.length c0_0, .slice A0_1 l0_1.length c0_1], .int .i64 0] ?_; (with_reducible refine (impl_minimized.calls _ _ l0_0 _ _ l0_1 0 ak au _ ?side1 ?side2 ?side3 ?side4 A2.out).mono ?_); (case side1 => exact rc_ (Kd.C_below aA.out HB.out)); (case side2 => exact aB.out); (case side3 => exact rc_ (Kd.C_below aC.out HB.out)); (case side4 => exact aD.out); rintro e w8 ⟨aH, aI, rfl, ho0, ho1, hb⟩; refine ⟨_, rfl, ?_⟩; have n0_ := am_ (Kd.R_lower ho0 (below_size (b2_ HB.out ad.out ag.out))); have n1_ := am_ (Kd.S_lower ho1 (below_size (b2_ HB.out ad.out ag.out))); have n2_ := am_ (blk_below (rb_ aa.out) hb); have n3_ := am_ (blk_below (rb_ ab.out) hb); have n4_ := am_ (below_step (b2_ HB.out ad.out ag.out) hb); clear aa; clear ab; clear HB; have al := n0_; have am := n1_; have aa := n2_; have ab := n3_; have HB := n4_; clear n0_ n1_ n2_ n3_ n4_; (try clear hb); (try clear hb2); (try clear hk); (try clear hi); (try clear ho0); (try clear ho1)) | ((with_reducible refine gate_dst (N := 4) rfl ?_); refine box_event ?hg (N := 4) ?hd (cs := #[.slice none 0 0, .slice none 0 0]) (t := 27) ?hr ?_; (case hd => rfl); (case hg => rfl); (case hr => first | (go_simp; done) | (go_simp; rfl)); intro af hg w9 hbox hb; have n0_ := am_ (Kd.R_below (rr_ al.out) hb); have n1_ := am_ (Kd.S_below (rs_ am.out) hb); have n2_ := am_ (blk_below (rb_ aa.out) hb); have n3_ := am_ (blk_below (rb_ ab.out) hb); have n4_ := am_ (below_step (b2_ HB.out ad.out ag.out) hb); have n5_ := am_ (hbox); have n6_ := am_ ((by rw [hg]; exact (below_size (b2_ HB.out ad.out ag.out)) : w.heap.size ≤ af)); have n7_ := am_ ((by rw [hg]; exact (below_size (b2_ HB.out ad.out ag.out)) : w.heap.size ≤ af)); have n8_ := am_ ((by rw [hg]; exact Nat.ne_of_lt (blk_lt (rb_ aa.out)) : ai ≠ af)); have n9_ := am_ ((by rw [hg]; exact Nat.ne_of_gt (blk_lt (rb_ aa.out)) : af ≠ ai)); have n10_ := am_ ((by rw [hg]; exact Nat.ne_of_lt (blk_lt (rb_ ab.out)) : ae ≠ af)); have n11_ := am_ ((by rw [hg]; exact Nat.ne_of_gt (blk_lt (rb_ ab.out)) : af ≠ ae)); clear al; clear am; clear aa; clear ab; clear HB; have al := n0_; have am := n1_; have aa := n2_; have ab := n3_; have HB := n4_; have aj := n5_; have aG := n6_; have az := n7_; have ap := n8_; have aq := n9_; have ah := n10_; have ar := n11_; clear n0_ n1_ n2_ n3_ n4_ n5_ n6_ n7_ n8_ n9_ n10_ n11_; clear hb hbox hg; obtain ⟨bx, bz, aJ⟩ := Kd.R_slice al.out; subst aJ; have bl := aq.out; have bm := ap.out; have bn := ar.out; have bo := ah.out; have aN := ck_ (v := (.slice none 0 0)) aj 0 rfl; have aO := ck_ (v := (.slice none 0 0)) aj 1 rfl; have aP := blk_frozen aj.out 0; have aQ := blk_frozen aj.out 1; obtain ⟨bA, bB, aK⟩ := Kd.S_slice am.out; subst aK; have aR := ck_ (v := (.slice none 0 0)) ab 0 rfl; have aS := ck_ (v := (.slice none 0 0)) ab 1 rfl; have aT := blk_frozen ab.out 0; have aU := blk_frozen ab.out 1))
  refine bodyPost_ret (results_ct rfl _ _ ae 27 #[.slice none 0 0, .slice none 0 0] (0, 0) _ rfl (by refine rb_ ?_; refine blk_put (cs := #[.slice none 0 0, .slice none 0 0]) ?_ 1 _ rfl; refine rb_ ?_; refine blk_put (cs := #[.slice none 0 0, .slice none 0 0]) ?_ 0 _ rfl; refine rb_ ?_; refine blk_far ?_ ah.out _; refine rb_ ?_; refine blk_far ?_ ah.out _; refine rb_ ?_; exact ab.out) Try.underlying27 rfl (by kernel_rfl)) rfl ?_
  exact ⟨_, _, by first | rfl | (simp [errW_none, errW_some] <;> rfl) | (simp [*, errW_none, errW_some] <;> rfl), by first | exact Kd.R_nil _ _ _ _ _ | exact Kd.N_nil _ _ _ _ _ | exact Kd.V_nil _ _ _ _ _ | exact Kd.Q_nil _ _ _ _ _ | exact Kd.S_nil _ _ _ _ _, by first | exact Kd.S_nil _ _ _ _ _ | exact Kd.N_nil _ _ _ _ _ | exact Kd.V_nil _ _ _ _ _ | exact Kd.Q_nil _ _ _ _ _ | exact Kd.R_nil _ _ _ _ _, by repeat (first | (with_reducible first | exact HB.out | apply below_alloc | apply pw_below_drewN | apply below_drew1 | refine below_set ?_ ad.out | refine below_set ?_ ag.out | refine below_set ?_ az.out) | exact HB.out)⟩
 ·rw [if_neg c3] at H
  have c3b0 : decide (40 < (ak.length : Int)) = false := decide_eq_false c3
  have c3b1 : decide (40 < ak.length) = false := decide_eq_false (by omega)
  clear c3
  simp only [Option.some.injEq, Prod.mk.injEq] at H
  obtain ⟨rfl, rfl, rfl⟩ := H
  go_enter Try.func68, Try.ntmps68
  go_wp2_with (first | ((with_reducible refine gate_dst (N := 1) rfl ?_); refine box_event ?hg (N := 1) ?hd (cs := #[.slice A0_0 l0_0.length c0_0, .slice A0_1 l0_1.length c0_1]) (t := 27) ?hr ?_; (case hd => rfl); (case hg => rfl); (case hr => first | (go_simp; done) | (go_simp; rfl)); intro ai hg w16 hbox hb; replace aa := am_ (hbox); replace aE := am_ ((by rw [hg]; exact (below_size (b0_ HB.out)) : w.heap.size ≤ ai)); replace ad := am_ ((by rw [hg]; exact (below_size (b0_ HB.out)) : w.heap.size ≤ ai)); replace HB := am_ (below_step (b0_ HB.out) hb); clear hb hbox hg) | ((with_reducible refine gate_dst (N := 2) rfl ?_); refine box_event ?hg (N := 2) ?hd (cs := #[.slice none 0 0, .slice none 0 0]) (t := 27) ?hr ?_; (case hd => rfl); (case hg => rfl); (case hr => first | (go_simp; done) | (go_simp; rfl)); intro ae hg w17 hbox hb; have n0_ := am_ (blk_below (rb_ aa.out) hb); have n1_ := am_ (below_step (b1_ HB.out ad.out) hb); have n2_ := am_ (hbox); have n3_ := am_ ((by rw [hg]; exact (below_size (b1_ HB.out ad.out)) : w.heap.size ≤ ae)); have n4_ := am_ ((by rw [hg]; exact (below_size (b1_ HB.out ad.out)) : w.heap.size ≤ ae)); have n5_ := am_ ((by rw [hg]; exact Nat.ne_of_lt (blk_lt (rb_ aa.out)) : ai ≠ ae)); have n6_ := am_ ((by rw [hg]; exact Nat.ne_of_gt (blk_lt (rb_ aa.out)) : ae ≠ ai)); clear aa; clear HB; have aa := n0_; have HB := n1_; have ab := n2_; have aF := n3_; have ag := n4_; have an := n5_; have ao := n6_; clear n0_ n1_ n2_ n3_ n4_ n5_ n6_; clear hb hbox hg; have bp := an.out; have bq := ao.out; have aV := ck_ (v := (.slice A0_0 l0_0.length c0_0)) aa 0 rfl; have aW := ck_ (v := (.slice A0_1 l0_1.length c0_1)) aa 1 rfl; have aX := blk_frozen aa.out 0; have aY := blk_frozen aa.out 1) | ((with_reducible refine gate_callee (f := 56) rfl ?_); refine gL_ (some 6) Try.func56 #[.agg #[.slice A0_0 l0_0.length c0_0, .slice A0_1 l0_1.length c0_1], .int .i64 0] ?_; (with_reducible refine (impl_minimized.calls _ _ l0_0 _ _ l0_1 0 ak au _ ?side1 ?side2 ?side3 ?side4 A2.out).mono ?_); (case side1 => exact rc_ (Kd.C_below aA.out HB.out)); (case side2 => exact aB.out); (case side3 => exact rc_ (Kd.C_below aC.out HB.out)); (case side4 => exact aD.out); rintro e w20 ⟨aH, aI, rfl, ho0, ho1, hb⟩; refine ⟨_, rfl, ?_⟩; have n0_ := am_ (Kd.R_lower ho0 (below_size (b2_ HB.out ad.out ag.out))); have n1_ := am_ (Kd.S_lower ho1 (below_size (b2_ HB.out ad.out ag.out))); have n2_ := am_ (blk_below (rb_ aa.out) hb); have n3_ := am_ (blk_below (rb_ ab.out) hb); have n4_ := am_ (below_step (b2_ HB.out ad.out ag.out) hb); clear aa; clear ab; clear HB; have al := n0_; have am := n1_; have aa := n2_; have ab := n3_; have HB := n4_; clear n0_ n1_ n2_ n3_ n4_; (try clear hb); (try clear hb2); (try clear hk); (try clear hi); (try clear ho0); (try clear ho1)) | ((with_reducible refine gate_dst (N := 4) rfl ?_); refine box_event ?hg (N := 4) ?hd (cs := #[.slice none 0 0, .slice none 0 0]) (t := 27) ?hr ?_; (case hd => rfl); (case hg => rfl); (case hr => first | (go_simp; done) | (go_simp; rfl)); intro af hg w21 hbox hb; have n0_ := am_ (Kd.R_below (rr_ al.out) hb); have n1_ := am_ (Kd.S_below (rs_ am.out) hb); have n2_ := am_ (blk_below (rb_ aa.out) hb); have n3_ := am_ (blk_below (rb_ ab.out) hb); have n4_ := am_ (below_step (b2_ HB.out ad.out ag.out) hb); have n5_ := am_ (hbox); have n6_ := am_ ((by rw [hg]; exact (below_size (b2_ HB.out ad.out ag.out)) : w.heap.size ≤ af)); have n7_ := am_ ((by rw [hg]; exact (below_size (b2_ HB.out ad.out ag.out)) : w.heap.size ≤ af)); have n8_ := am_ ((by rw [hg]; exact Nat.ne_of_lt (blk_lt (rb_ aa.out)) : ai ≠ af)); have n9_ := am_ ((by rw [hg]; exact Nat.ne_of_gt (blk_lt (rb_ aa.out)) : af ≠ ai)); have n10_ := am_ ((by rw [hg]; exact Nat.ne_of_lt (blk_lt (rb_ ab.out)) : ae ≠ af)); have n11_ := am_ ((by rw [hg]; exact Nat.ne_of_gt (blk_lt (rb_ ab.out)) : af ≠ ae)); clear al; clear am; clear aa; clear ab; clear HB; have al := n0_; have am := n1_; have aa := n2_; have ab := n3_; have HB := n4_; have aj := n5_; have aG := n6_; have az := n7_; have ap := n8_; have aq := n9_; have ah := n10_; have ar := n11_; clear n0_ n1_ n2_ n3_ n4_ n5_ n6_ n7_ n8_ n9_ n10_ n11_; clear hb hbox hg; obtain ⟨av, aw, aL⟩ := Kd.R_slice al.out; subst aL; have br := aq.out; have bs := ap.out; have bt := ar.out; have bu := ah.out; have aZ := ck_ (v := (.slice none 0 0)) aj 0 rfl; have ba := ck_ (v := (.slice none 0 0)) aj 1 rfl; have bb := blk_frozen aj.out 0; have bc := blk_frozen aj.out 1; obtain ⟨ax, ay, aM⟩ := Kd.S_slice am.out; subst aM; have bd := ck_ (v := (.slice none 0 0)) ab 0 rfl; have be := ck_ (v := (.slice none 0 0)) ab 1 rfl; have bf := blk_frozen ab.out 0; have bg := blk_frozen ab.out 1))
  refine bodyPost_ret (results_ct rfl _ _ ae 27 #[.slice av ak.length aw, .slice ax au.length ay] (0, 0) _ rfl (by refine rb_ ?_; refine blk_put (cs := #[.slice av ak.length aw, .slice none 0 0]) ?_ 1 _ rfl; refine rb_ ?_; refine blk_put (cs := #[.slice none 0 0, .slice none 0 0]) ?_ 0 _ rfl; refine rb_ ?_; refine blk_far ?_ ah.out _; refine rb_ ?_; refine blk_far ?_ ah.out _; refine rb_ ?_; exact ab.out) Try.underlying27 rfl (by kernel_rfl)) rfl ?_
  exact ⟨_, _, by first | rfl | (simp [errW_none, errW_some] <;> rfl) | (simp [*, errW_none, errW_some] <;> rfl), by refine rr_ ?_; exact Kd.R_mono (Kd.R_far (p := ⟨ae, 1, none⟩) (Kd.R_far (p := ⟨ae, 0, none⟩) (Kd.R_far (p := ⟨af, 1, none⟩) (Kd.R_far (p := ⟨af, 0, none⟩) (Kd.R_types (Kd.R_types al.out aj.out (by decide)) ab.out (by decide)) (fun _ hk => hk.1.2) (.slice av ak.length aw)) (fun _ hk => hk.1.2) (.slice ax au.length ay)) (fun _ hk => hk.2) (.slice av ak.length aw)) (fun _ hk => hk.2) (.slice ax au.length ay)) (fun _ hk => trivial), by refine rs_ ?_; exact Kd.S_mono (Kd.S_far (p := ⟨ae, 1, none⟩) (Kd.S_far (p := ⟨ae, 0, none⟩) (Kd.S_far (p := ⟨af, 1, none⟩) (Kd.S_far (p := ⟨af, 0, none⟩) (Kd.S_types (Kd.S_types am.out aj.out (by decide)) ab.out (by decide)) (fun _ hk => hk.1.2) (.slice av ak.length aw)) (fun _ hk => hk.1.2) (.slice ax au.length ay)) (fun _ hk => hk.2) (.slice av ak.length aw)) (fun _ hk => hk.2) (.slice ax au.length ay)) (fun _ hk => trivial), by repeat (first | (with_reducible first | exact HB.out | apply below_alloc | apply pw_below_drewN | apply below_drew1 | refine below_set ?_ ad.out | refine below_set ?_ ag.out | refine below_set ?_ az.out) | exact HB.out)⟩
end Go.Proofs.Ytogamkblkoobkaa.P
end
section
namespace Go.Proofs.Ytogamkblkoobkaa.Wk
open Go.RowKit Go.Shelf Go.Proofs.Ytogamkblkoobkaa.P Go.Proofs.Ytogamkblkoobkaa.Pl Go.Proofs.Ytogamkblkoobkaa.Mp Go.Proofs.Ytogamkblkoobkaa.Bf Go.Proofs.Ytogamkblkoobkaa.Mn Go.Proofs.Ytogamkblkoobkaa.Lg Go.Proofs.Ytogamkblkoobkaa.Can Go.Proofs.YtogamkblkoobkaaW.PrintWords Go.Proofs.YtogamkblkoobkaaW.PrintLast Go.Proofs.YtogamkblkoobkaaW.PrintMore
set_option linter.unusedVariables false
set_option linter.unusedSimpArgs false
theorem pd_fit {A : List Bool} {M : List (List Int)} (h1 : 1 ≤ A.length) (h2 : A.length ≤ 1600) (h3 : Rows3 A.length M) : impl_fitting.f A M = some (fitD A M) := by
  unfold impl_fitting.f impl_minimized.f
  rw [if_pos ⟨h3.1, by omega, h3.2, by omega, by omega⟩]
  unfold fitD
  simp only [Option.bind_some]
  by_cases h : (minD A M 0).1.length ≤ 40
  · rw [if_neg (show ¬ ((minD A M 0).1.length : Int) > 40 by omega), if_pos h]
  · rw [if_pos (show ((minD A M 0).1.length : Int) > 40 by omega), if_neg h]
end Go.Proofs.Ytogamkblkoobkaa.Wk
end
section
namespace Go.Proofs.Ytogamkblkoobkaa.Wk
open Go.RowKit Go.Shelf Go.Proofs.Ytogamkblkoobkaa.P Go.Proofs.Ytogamkblkoobkaa.Pl Go.Proofs.Ytogamkblkoobkaa.Mp Go.Proofs.Ytogamkblkoobkaa.Bf Go.Proofs.Ytogamkblkoobkaa.Mn Go.Proofs.Ytogamkblkoobkaa.Lg Go.Proofs.Ytogamkblkoobkaa.Can Go.Proofs.YtogamkblkoobkaaW.PrintWords Go.Proofs.YtogamkblkoobkaaW.PrintLast Go.Proofs.YtogamkblkoobkaaW.PrintMore
set_option linter.unusedVariables false
set_option linter.unusedSimpArgs false
theorem st_fn (P : Program) (w : World) (a : Addr) (m : Mode) (fn : Fn) (first captured : Array Value) : (store a (.func fn first captured) m).run P w = stored P w a (.func fn first captured) m := run_store P w a _ m rfl
attribute [local go_sem] st_fn
def bgSet (a : List Bool) (x : Pr) : Int := if rdOf false a x.1 = true then Go.bits .or .u64 x.2 1 else x.2
def bgP (a : List Bool) (x : Pr) : Pr := (x.1, bgSet a x)
def nxCt (a : List Bool) (n : List (List Int)) (m : List (List Int)) (x : Pr) (j : Nat) : Pr := bgP a (nxD n x.1 j, mvS m x.2 (j : Int))
def acCt (b : List Bool) (x : Pr) : Bool := acS b x.2
set_option maxHeartbeats 4000000 in
set_option maxRecDepth 100000 in
theorem ctBg (A0 : Option Addr) (c0 : Nat) (l0 : List Bool) (Ga : Nat) (x : Pr) (W : World) (hx0 : 0 ≤ x.1) (hx1 : x.1 < l0.length)
    (ha : W.cell? ⟨Ga, 0, none⟩ = some (.slice A0 l0.length c0)) (hr0 : Kd.C Kd.bool W A0 l0.length l0) :
    Calls Try.prog 77 (#[.agg #[.int .i64 x.1, .int .u64 x.2]] ++ #[.pointer (some ⟨Ga, 0, none⟩)]) W fun e W' => e = .returned (.agg #[.int .i64 (bgP l0 x).1, .int .u64 (bgP l0 x).2]) ∧ Below W.heap.size W W' := by
  obtain ⟨a0, rfl, hu⟩ := Kd.at_bool hr0 x.1 hx0 hx1
  unfold bgP bgSet
  generalize rdOf false l0 x.1 = u at hu ⊢
  have HB := am_ (below_alloc (below_alloc (Below.refl W.heap.size W) (Obj.cells #[Value.int IntKind.i64 x.1, Value.int IntKind.u64 x.2] 86)) (Obj.cells #[Value.int IntKind.i64 0, Value.int IntKind.u64 0] 86))
  have HRX : Aside0 (((W.alloc (Obj.cells #[Value.int IntKind.i64 x.1, Value.int IntKind.u64 x.2] 86)).alloc (Obj.cells #[Value.int IntKind.i64 0, Value.int IntKind.u64 0] 86)).heap[W.heap.size]? = some (.cells #[.int .i64 x.1, .int .u64 x.2] 86 (0, 0))) := ⟨by have h_ := blk_alloc (blk_new W (Obj.cells #[Value.int IntKind.i64 x.1, Value.int IntKind.u64 x.2] 86)) (Obj.cells #[Value.int IntKind.i64 0, Value.int IntKind.u64 0] 86); simpa using h_⟩
  have HRS : Aside0 (((W.alloc (Obj.cells #[Value.int IntKind.i64 x.1, Value.int IntKind.u64 x.2] 86)).alloc (Obj.cells #[Value.int IntKind.i64 0, Value.int IntKind.u64 0] 86)).heap[W.heap.size + 1]? = some (.cells #[.int .i64 0, .int .u64 0] 86 (0, 0))) := ⟨by have h_ := blk_new (W.alloc (Obj.cells #[Value.int IntKind.i64 x.1, Value.int IntKind.u64 x.2] 86)) (Obj.cells #[Value.int IntKind.i64 0, Value.int IntKind.u64 0] 86); simpa using h_⟩
  have ka := pw_cell_below HB.out ha
  have ku := pw_cell_below HB.out hu
  have p1 := eq_true hx0
  have q1 := eq_true hx1
  clear hx0 hx1 hr0 ha hu
  cases u
  all_goals
    go_enter Try.func77, Try.ntmps77
    go_wp2
  · refine bodyPost_ret (v := .agg #[.int .i64 x.1, .int .u64 x.2]) (by simp [results, Try.results77, go_sem]) rfl ⟨rfl, ?_⟩
    exact below_alloc (below_alloc (Below.refl _ _) _) _
  · refine bodyPost_ret (v := .agg #[.int .i64 x.1, .int .u64 (Go.bits .or .u64 x.2 1)]) (by simp [results, Try.results77, go_sem]) rfl ⟨rfl, ?_⟩
    exact below_alloc (below_alloc (Below.refl _ _) _) _
set_option maxHeartbeats 4000000 in
set_option maxRecDepth 100000 in
theorem ctAcc (A0 : Option Addr) (c0 : Nat) (l0 : List Bool) (A1 : Option Addr) (c1 : Nat) (l1 : List (List Int)) (Ga : Nat) (x : Pr) (W : World) (hl : l0.length ≤ 40) (hx : U64 x.2)
    (ha : W.cell? ⟨Ga, 0, none⟩ = some (.slice A0 l0.length c0)) (hb : W.cell? ⟨Ga, 1, none⟩ = some (.slice A1 l1.length c1)) (hr0 : Kd.C Kd.bool W A0 l0.length l0) (hc0 : l0.length ≤ c0) (hr1 : Kd.C (Kd.slice 3 (Kd.int .i64)) W A1 l1.length l1) (hc1 : l1.length ≤ c1) :
    Calls Try.prog 79 (#[.agg #[.int .i64 x.1, .int .u64 x.2]] ++ #[.pointer (some ⟨Ga, 0, none⟩)]) W fun e W' => e = .returned (.bool (acCt l0 x)) ∧ Below W.heap.size W W' := by
  have hu := Try.underlying27
  have HB := am_ (below_alloc (Below.refl W.heap.size W) (Obj.cells #[Value.int IntKind.i64 x.1, Value.int IntKind.u64 x.2] 86))
  have ka := pw_cell_below HB.out ha
  have kb := pw_cell_below HB.out hb
  obtain ⟨k, hk⟩ := (impl_accepting_ev (n := l1) hl hx).rounds
  unfold acCt
  generalize acS l0 x.2 = r at hk ⊢
  have HK := am_ hk
  have HC0 := am_ (Kd.C_below hr0 HB.out)
  have HC1 := am_ (Kd.C_below hr1 HB.out)
  have HD0 := am_ hc0
  have HD1 := am_ hc1
  clear ha hb hr0 hr1 hc0 hc1 hk
  go_enter Try.func79, Try.ntmps79
  go_wp2_with (go_at_call 80; (with_reducible refine (impl_accepting.calls k _ _ l0 _ _ l1 x.2 r _ ?s1 HD0.out ?s2 HD1.out HK.out).mono ?_); (case s1 => exact HC0.out); (case s2 => exact HC1.out); rintro e w2 ⟨rfl, hb⟩; have HB2 := bt_ HB hb; clear hb)
  go_ret
  exact ⟨rfl, HB2.out⟩
def Tc1 : Bool × List (List Nat × List Nat) := (true, [([], []), ([], []), ([1], [1]), ([], []), ([3], [3]), ([2, 4], [2, 4]), ([5], [5]), ([], []), ([6, 7], [6, 7]), ([8], [8]), ([], []), ([], []), ([11], [11]), ([], []), ([10, 12, 13], [10, 12, 13]), ([9, 14], [9, 14]), ([0, 15, 14], [0, 15]), ([16, 16, 0, 1, 2, 3, 4, 5, 6, 7, 8, 9, 10, 11, 12, 13, 14, 15, 16], [16])])
def Bc1 : List Nat := [0, 0, 2, 0, 8, 30, 62, 0, 254, 510, 0, 0, 2048, 0, 15360, 32766, 65535, 131071]
theorem tabc1 : rtab .any (opsOf Try.f81 1) = Tc1 := by kernel_rfl
theorem bitsc1 : waitsOk Tc1.2 Bc1 = true := by kernel_rfl
set_option maxHeartbeats 4000000 in
set_option maxRecDepth 100000 in
theorem ctNext (A0 : Option Addr) (c0 : Nat) (l0 : List Bool) (A1 : Option Addr) (c1 : Nat) (l1 : List (List Int)) (B0 : Option Addr) (d0 : Nat) (m0 : List Bool) (B1 : Option Addr) (d1 : Nat) (m1 : List (List Int)) (G Ga Gb : Nat) (x : Pr) (j : Nat) (hj : j < 3) (W : World) (hf0 : Fits l0 l1) (hf : Fits m0 m1) (hl : m0.length ≤ 40) (hx : U64 x.2) (hx0 : 0 ≤ x.1) (hx1 : x.1 < l0.length)
    (hG : W.cell? ⟨G, 0, none⟩ = some (.func (.func 77) #[] #[.pointer (some ⟨Ga, 0, none⟩)])) (ha0 : W.cell? ⟨Ga, 0, none⟩ = some (.slice A0 l0.length c0)) (ha1 : W.cell? ⟨Ga, 1, none⟩ = some (.slice A1 l1.length c1)) (hb0 : W.cell? ⟨Gb, 0, none⟩ = some (.slice B0 m0.length d0)) (hb1 : W.cell? ⟨Gb, 1, none⟩ = some (.slice B1 m1.length d1)) (hr0 : Kd.C Kd.bool W A0 l0.length l0) (hc0 : l0.length ≤ c0) (hr1 : Kd.C (Kd.slice 3 (Kd.int .i64)) W A1 l1.length l1) (hc1 : l1.length ≤ c1) (hs0 : Kd.C Kd.bool W B0 m0.length m0) (hd0 : m0.length ≤ d0) (hs1 : Kd.C (Kd.slice 3 (Kd.int .i64)) W B1 m1.length m1) (hd1 : m1.length ≤ d1) :
    Calls Try.prog 81 (#[.agg #[.int .i64 x.1, .int .u64 x.2], .int .i64 j] ++ #[.pointer (some ⟨G, 0, none⟩), .pointer (some ⟨Ga, 0, none⟩), .pointer (some ⟨Gb, 0, none⟩)]) W fun e W' => e = .returned (.agg #[.int .i64 (nxCt l0 l1 m1 x j).1, .int .u64 (nxCt l0 l1 m1 x j).2]) ∧ Below W.heap.size W W' := by
  have hud := Try.underlying27
  obtain ⟨g1, g2⟩ := hf0.row x.1 ⟨hx0, hx1⟩
  have hl0 := hf0.len
  obtain ⟨a1, rfl, hcell⟩ := cellsRows hr1 (by omega)
  obtain ⟨Aj, cj, hu, hrow⟩ := hcell x.1.toNat (by omega)
  have hy := g2 (rd (rowOf l1 x.1) (j : Int)) (by rw [rd_get _ j (by omega)]; exact List.getElem_mem _)
  have hrw : l1.getD x.1.toNat [] = rowOf l1 x.1 := rfl
  have hnx : nxD l1 x.1 j = rd (rowOf l1 x.1) (j : Int) := rfl
  rw [hrw] at hu hrow
  unfold nxCt
  rw [hnx]
  generalize rowOf l1 x.1 = row0 at g1 hy hu hrow ⊢
  obtain ⟨b0, rfl, hs⟩ := Kd.at_int hrow (j : Int) (by omega) (by omega)
  generalize rd row0 (j : Int) = y0 at hs hy ⊢
  rw [Int.toNat_natCast] at hs
  obtain ⟨k1, hk1⟩ := (impl_moved_ev hf hl hx j hj).rounds
  generalize mvS m1 x.2 (j : Int) = m at hk1 ⊢
  have HK1 := am_ hk1
  have HBG := am_ (fun W' (hb : Below W.heap.size W W') => ctBg A0 c0 l0 Ga (y0, m) W' hy.1 hy.2 (pw_cell_below hb ha0) (Kd.C_below hr0 hb))
  generalize bgP l0 (y0, m) = z at HBG ⊢
  have HD0 := am_ hd0
  have HD1 := am_ hd1
  have p1 := eq_true hx0
  have q1 : (x.1 < (l1.length : Int)) = True := eq_true (by omega)
  have p3 : ((0 : Int) ≤ (j : Int)) = True := eq_true (by omega)
  have q3 : ((j : Int) < (row0.length : Int)) = True := eq_true (by omega)
  have HB := am_ (below_alloc (below_alloc (Below.refl W.heap.size W) (Obj.cells #[Value.int IntKind.i64 x.1, Value.int IntKind.u64 x.2] 86)) (Obj.cells #[Value.int IntKind.i64 0, Value.int IntKind.u64 0] 86))
  have HRS : Aside0 (((W.alloc (Obj.cells #[Value.int IntKind.i64 x.1, Value.int IntKind.u64 x.2] 86)).alloc (Obj.cells #[Value.int IntKind.i64 0, Value.int IntKind.u64 0] 86)).heap[W.heap.size + 1]? = some (.cells #[.int .i64 0, .int .u64 0] 86 (0, 0))) := ⟨by have h_ := blk_new (W.alloc (Obj.cells #[Value.int IntKind.i64 x.1, Value.int IntKind.u64 x.2] 86)) (Obj.cells #[Value.int IntKind.i64 0, Value.int IntKind.u64 0] 86); simpa using h_⟩
  have kG := pw_cell_below HB.out hG
  have ka1 := pw_cell_below HB.out ha1
  have kb0 := pw_cell_below HB.out hb0
  have kb1 := pw_cell_below HB.out hb1
  have ku := pw_cell_below HB.out hu
  have ks := pw_cell_below HB.out hs
  have HC0 := am_ (Kd.C_below hs0 HB.out)
  have HC1 := am_ (Kd.C_below hs1 HB.out)
  clear hk1 hx0 hx1 hr0 hr1 hs0 hs1 hG ha0 ha1 hb0 hb1 hu hs hcell hrow g1 g2 hy hl0 hc0 hc1 hd0 hd1 hrw hnx hx hf0 hf hl
  go_enter Try.func81, Try.ntmps81
  go_wp2
  have s0 : World.cell? ((W.alloc (Obj.cells #[Value.int IntKind.i64 x.1, Value.int IntKind.u64 x.2] 86)).alloc (Obj.cells #[Value.int IntKind.i64 0, Value.int IntKind.u64 0] 86)) ⟨W.heap.size, 0, none⟩ = some (.int .i64 x.1) := pw_cell_below (below_alloc (Below.refl _ _) _) (by simp)
  have s1 : World.cell? ((W.alloc (Obj.cells #[Value.int IntKind.i64 x.1, Value.int IntKind.u64 x.2] 86)).alloc (Obj.cells #[Value.int IntKind.i64 0, Value.int IntKind.u64 0] 86)) ⟨W.heap.size, 1, none⟩ = some (.int .u64 x.2) := pw_cell_below (below_alloc (Below.refl _ _) _) (by simp)
  have HBD := am_ (below_drew HB.out)
  have HRD := am_ (blk_drew HRS.out)
  have HCD0 := am_ (Kd.C_drew HC0.out)
  have HCD1 := am_ (Kd.C_drew HC1.out)
  clear HB HRS HC0 HC1
  refine start_ (n := 18) (S := (fun w' => w'.cell? ⟨G, 0, none⟩ = some (.func (.func 77) #[] #[.pointer (some ⟨Ga, 0, none⟩)]) ∧ w'.cell? ⟨Ga, 1, none⟩ = some (.slice (some a1) l1.length c1) ∧ w'.cell? ⟨W.heap.size, 0, none⟩ = some (.int .i64 x.1) ∧ w'.cell? (a1.add x.1.toNat) = some (.slice (some b0) row0.length cj) ∧ w'.cell? (b0.add j) = some (.int .i64 y0) ∧ w'.cell? ⟨Gb, 0, none⟩ = some (.slice B0 m0.length d0) ∧ w'.cell? ⟨Gb, 1, none⟩ = some (.slice B1 m1.length d1) ∧ w'.cell? ⟨W.heap.size, 1, none⟩ = some (.int .u64 x.2))) (ds := [17]) (bl 18 0) (by kernel_rfl) rfl rfl (⟨kG, ka1, s0, ku, ks, kb0, kb1, s1⟩) (fun hHeld => ?_); refine with_tabW tabc1 bitsc1 (fun HT_ HW_ => ?_)
  clear kG ka1 s0 ku ks kb0 kb1 s1
  generalize World.drew ((W.alloc (Obj.cells #[Value.int IntKind.i64 x.1, Value.int IntKind.u64 x.2] 86)).alloc (Obj.cells #[Value.int IntKind.i64 0, Value.int IntKind.u64 0] 86)) = W1 at HBD HRD HCD0 HCD1 hHeld ⊢
  refine ph_ 1 9 (bl 18 2) HT_ ?_
  refine ph_ 3 11 (bl 18 10) HT_ ?_
  refine ph_ 7 15 (bl 18 138) HT_ ?_
  refine ph_ 11 19 (bl 18 2186) HT_ ?_
  refine ph_ 13 21 (bl 18 10378) HT_ ?_
  refine th_ 0 8 (bl 18 10379) HT_ HW_ hHeld ?_
  refine th_ 2 10 (bl 18 10383) HT_ HW_ hHeld ?_
  refine th_ 4 12 (bl 18 10399) HT_ HW_ hHeld ?_
  refine ph_ 5 13 (bl 18 10431) HT_ ?_
  refine th_ 6 14 (bl 18 10495) HT_ HW_ hHeld ?_
  refine ph_ 8 16 (bl 18 10751) HT_ ?_
  refine th_ 9 17 (bl 18 11263) HT_ HW_ hHeld ?_
  refine th_ 10 18 (bl 18 12287) HT_ HW_ hHeld ?_
  refine th_ 12 20 (bl 18 16383) HT_ HW_ hHeld ?_
  refine on_ 14 (some 22) (bl 18 32767) HT_ (fun K hK => ?_)
  refine goes_ Try.func82 (by kernel_rfl) rfl #[.agg #[.slice B0 m0.length d0, .slice B1 m1.length d1], .int .u64 x.2, .int .i64 j] (by rfl) rfl rfl (by (try simp only [List.map_toArray, List.map_cons, List.map_nil]); first | done | rfl) ?_
  with_reducible refine (impl_moved.calls k1 _ _ m0 _ _ m1 x.2 (j : Int) m _ ?s1 HD0.out ?s2 HD1.out HK1.out).mono ?_
  (case s1 => exact HCD0.out)
  (case s2 => exact HCD1.out)
  rintro e w2 ⟨rfl, hb⟩
  refine ⟨_, rfl, ?_⟩
  have HB2 := bt_ HBD hb
  have HR2 := am_ (blk_below HRD.out hb)
  clear HBD HRD HCD0 HCD1
  refine hK.out _ _ (⟨pw_cell_below hb hHeld.1, pw_cell_below hb hHeld.2.1, pw_cell_below hb hHeld.2.2.1, pw_cell_below hb hHeld.2.2.2.1, pw_cell_below hb hHeld.2.2.2.2.1, pw_cell_below hb hHeld.2.2.2.2.2.1, pw_cell_below hb hHeld.2.2.2.2.2.2.1, pw_cell_below hb hHeld.2.2.2.2.2.2.2⟩) (fun hHeld => ?_)
  clear hK K
  refine nm_ 22 ?_
  clear hb
  refine ph_ 15 23 (bl 18 65535) HT_ ?_
  refine on_ 16 (some 24) (bl 18 131071) HT_ (fun K hK => ?_)
  refine goesFn_ 77 #[.pointer (some ⟨Ga, 0, none⟩)] (.tmp 8) #[.agg #[.int .i64 y0, .int .u64 m]] (enters_of Try.func77 (by kernel_rfl) rfl) (by rfl) rfl (by rfl) (by rfl) (by (try simp only [List.map_toArray, List.map_cons, List.map_nil]); first | done | rfl) ?_
  refine (HBG.out _ HB2.out).mono ?_
  rintro e w3 ⟨rfl, hb⟩
  refine ⟨_, rfl, ?_⟩
  have HB3 := bt_ HB2 hb
  have HR3 := am_ (blk_below HR2.out hb)
  clear HB2 HR2
  refine hK.out _ _ (⟨pw_cell_below hb hHeld.1, pw_cell_below hb hHeld.2.1, pw_cell_below hb hHeld.2.2.1, pw_cell_below hb hHeld.2.2.2.1, pw_cell_below hb hHeld.2.2.2.2.1, pw_cell_below hb hHeld.2.2.2.2.2.1, pw_cell_below hb hHeld.2.2.2.2.2.2.1, pw_cell_below hb hHeld.2.2.2.2.2.2.2⟩) (fun hHeld => ?_)
  clear hK K
  refine nm_ 24 ?_
  clear hb
  have hcz0 : World.cell? w3 ⟨W.heap.size + 1, 0, none⟩ = some (.int .i64 0) := (blk_cell HR3.out 0).trans rfl
  have hcz1 : World.cell? w3 ⟨W.heap.size + 1, 1, none⟩ = some (.int .u64 0) := (blk_cell HR3.out 1).trans rfl
  have hfz0 := blk_frozen HR3.out 0
  have hfz1 := blk_frozen HR3.out 1
  refine last_ (i := 17) (N := none) (bl 18 262143) rfl rfl (one_of HT_.out (by kernel_rfl)) (by decide) (fun K hK => ?_)
  refine skip_ (w1 := ?_) (by rfl) rfl ?_ ?_
  rotate_left
  · go_simp
    rfl
  refine hK.out _ _ ?_
  clear hK K
  refine done_ (done_of HT_.out (by kernel_rfl)) ?_
  clear HT_ HW_ hHeld
  go_wp2
  exact bodyPost_ret (results_cell_row rfl _ _ (W.heap.size + 1) 86 #[.int .i64 z.1, .int .u64 z.2] (0, 0) _ rfl (blk_put (cs' := #[.int .i64 z.1, .int .u64 z.2]) (blk_put (cs' := #[.int .i64 z.1, .int .u64 0]) HR3.out 0 _ rfl) 1 _ rfl) Try.underlying86 rfl (by kernel_rfl)) rfl ⟨rfl, below_set (below_set HB3.out (Nat.le_succ _)) (Nat.le_succ _)⟩
def ctX (a : List Bool) (n : List (List Int)) (b : List Bool) (m : List (List Int)) : Option (Ex Pr) := expl (acCt b) (nxCt a n m) 400 402 ([bgP a ((0 : Int), (0 : Int))], [], []) 0
def ctR (a : List Bool) (n : List (List Int)) (b : List Bool) (m : List (List Int)) : List Bool × List (List Int) × Bool := if validD a n = true ∧ validD b m = true then (match ctX a n b m with | some q => fitD q.2.1 q.2.2 | none => ([], [], false)) else ([], [], false)
theorem bg_dom {a : List Bool} {x : Pr} (h0 : 0 ≤ x.1 ∧ x.1 < (a.length : Int)) (h : U64 x.2) : (0 ≤ (bgP a x).1 ∧ (bgP a x).1 < (a.length : Int)) ∧ U64 (bgP a x).2 := by
  refine ⟨h0, ?_⟩
  show U64 (bgSet a x)
  unfold bgSet
  split
  · exact (bit_one h).1
  · exact h
theorem ct_dom {a : List Bool} {n : List (List Int)} {b : List Bool} {m : List (List Int)} (hf0 : Fits a n) (hf : Fits b m) (hb : b.length ≤ 40) (x : Pr) (j : Nat) (hx : (0 ≤ x.1 ∧ x.1 < (a.length : Int)) ∧ U64 x.2) (hj : j < 3) : (0 ≤ (nxCt a n m x j).1 ∧ (nxCt a n m x j).1 < (a.length : Int)) ∧ U64 (nxCt a n m x j).2 := by
  refine bg_dom ?_ (mvS_bits (s := x.2) hf hb j hj).1
  obtain ⟨g1, g2⟩ := hf0.row x.1 hx.1
  exact g2 (rd (rowOf n x.1) (j : Int)) (by rw [rd_get _ j (by omega)]; exact List.getElem_mem _)
theorem wf_ct {k : Nat} (hk : k ≤ 40) {x : Pr} (h : (0 ≤ x.1 ∧ x.1 < (k : Int)) ∧ U64 x.2) : wfR x := by
  obtain ⟨⟨h1, h2⟩, h3, h4⟩ := h
  exact ⟨by simp [wfI, Lit.wf, IntKind.min, IntKind.max, IntKind.signed, IntKind.bits]; omega, by simp [Lit.wf, IntKind.min, IntKind.max, IntKind.signed, IntKind.bits]; omega⟩
set_option maxHeartbeats 4000000 in
set_option maxRecDepth 100000 in
theorem ctCalls (A0 : Option Addr) (c0 : Nat) (l0 : List Bool) (A1 : Option Addr) (c1 : Nat) (l1 : List (List Int)) (B0 : Option Addr) (d0 : Nat) (m0 : List Bool) (B1 : Option Addr) (d1 : Nat) (m1 : List (List Int)) (w : World) (hr0 : Kd.C Kd.bool w A0 l0.length l0) (hc0 : l0.length ≤ c0) (hr1 : Kd.C (Kd.slice 3 (Kd.int .i64)) w A1 l1.length l1) (hc1 : l1.length ≤ c1) (hs0 : Kd.C Kd.bool w B0 m0.length m0) (hd0 : m0.length ≤ d0) (hs1 : Kd.C (Kd.slice 3 (Kd.int .i64)) w B1 m1.length m1) (hd1 : m1.length ≤ d1) :
    Calls Try.prog 24 #[.agg #[.slice A0 l0.length c0, .slice A1 l1.length c1], .agg #[.slice B0 m0.length d0, .slice B1 m1.length d1]] w fun e w' => ∃ v0 v1 : Value, e = .returned (.tuple #[.agg #[v0, v1], .bool (ctR l0 l1 m0 m1).2.2]) ∧ Kd.R Kd.bool 4 w' w.heap.size (fun _ => True) v0 (ctR l0 l1 m0 m1).1 ∧ Kd.S (Kd.slice 3 (Kd.int .i64)) 67 w' w.heap.size (fun _ => True) v1 (ctR l0 l1 m0 m1).2.1 ∧ Below w.heap.size w w' := by
  have hu := Try.underlying27
  have hu87 := Try.underlying87
  have HV := am_ (fun W (hb : Below w.heap.size w W) => validCalls A0 c0 l0 A1 c1 l1 W (Kd.C_below hr0 hb) (Kd.C_below hr1 hb))
  have HV2 := am_ (fun W (hb : Below w.heap.size w W) => validCalls B0 d0 m0 B1 d1 m1 W (Kd.C_below hs0 hb) (Kd.C_below hs1 hb))
  obtain ⟨OA, hOA⟩ : ∃ o : Obj, o = Obj.cells #[.slice A0 l0.length c0, .slice A1 l1.length c1] 27 := ⟨_, rfl⟩
  obtain ⟨OB, hOB⟩ : ∃ o : Obj, o = Obj.cells #[.slice B0 m0.length d0, .slice B1 m1.length d1] 27 := ⟨_, rfl⟩
  obtain ⟨OD, hOD⟩ : ∃ o : Obj, o = Obj.cells #[.slice none 0 0, .slice none 0 0] 27 := ⟨_, rfl⟩
  have HB0 : Aside0 (Below w.heap.size w (((w.alloc OA).alloc OB).alloc OD)) := ⟨below_alloc (below_alloc (below_alloc (Below.refl w.heap.size w) _) _) _⟩
  have KA0 : Aside0 (World.cell? (((w.alloc OA).alloc OB).alloc OD) ⟨w.heap.size, 0, none⟩ = some (.slice A0 l0.length c0)) := ⟨by rw [hOA]; exact pw_cell_below (below_alloc (below_alloc (Below.refl _ _) _) _) (by simp)⟩
  have KA1 : Aside0 (World.cell? (((w.alloc OA).alloc OB).alloc OD) ⟨w.heap.size, 1, none⟩ = some (.slice A1 l1.length c1)) := ⟨by rw [hOA]; exact pw_cell_below (below_alloc (below_alloc (Below.refl _ _) _) _) (by simp)⟩
  have KB0 : Aside0 (World.cell? (((w.alloc OA).alloc OB).alloc OD) ⟨w.heap.size + 1, 0, none⟩ = some (.slice B0 m0.length d0)) := ⟨by rw [hOB]; exact pw_cell_below (below_alloc (Below.refl _ _) _) (by simp)⟩
  have KB1 : Aside0 (World.cell? (((w.alloc OA).alloc OB).alloc OD) ⟨w.heap.size + 1, 1, none⟩ = some (.slice B1 m1.length d1)) := ⟨by rw [hOB]; exact pw_cell_below (below_alloc (Below.refl _ _) _) (by simp)⟩
  have HR8 : Aside0 ((((w.alloc OA).alloc OB).alloc OD).heap[w.heap.size + 1 + 1]? = some (.cells #[.slice none 0 0, .slice none 0 0] 27 (0, 0))) := ⟨by
    have h0 := blk_new ((w.alloc OA).alloc OB) OD
    rw [hOD] at h0 ⊢
    simpa using h0⟩
  have HGE : Aside0 (w.heap.size ≤ w.heap.size + 1 + 1) := ⟨by omega⟩
  cases hv : validD l0 l1 with
  | false =>
    rw [hv] at HV
    have e : ctR l0 l1 m0 m1 = ([], [], false) := by unfold ctR; rw [hv]; rw [if_neg]; rintro ⟨h, _⟩; cases h
    rw [e]
    subst hOA hOB hOD
    clear hv e hr0 hr1 hs0 hs1 HV2 hc0 hc1 hd0 hd1
    go_enter Try.func24, Try.ntmps24
    go_wp2_with (go_at_call 39; (with_reducible refine (HV.out _ ?hq0).mono ?_); (case hq0 => exact HB0.out); rintro e w1 ⟨rfl, hb⟩; have HB := bt_ HB0 hb; have HR9 := am_ (blk_below HR8.out hb); have hcz0 : World.cell? w1 ⟨w.heap.size + 1 + 1, 0, none⟩ = some (.slice none 0 0) := (blk_cell HR9.out 0).trans rfl; have hcz1 : World.cell? w1 ⟨w.heap.size + 1 + 1, 1, none⟩ = some (.slice none 0 0) := (blk_cell HR9.out 1).trans rfl; have hfz0 := blk_frozen HR9.out 0; have hfz1 := blk_frozen HR9.out 1; clear hb)
    have HT4 : Aside0 (((w1.setCell ⟨w.heap.size + 1 + 1, 0, none⟩ (.slice none 0 0)).setCell ⟨w.heap.size + 1 + 1, 1, none⟩ (.slice none 0 0)).heap[w.heap.size + 1 + 1]? = some (.cells #[.slice none 0 0, .slice none 0 0] 27 (0, 0))) := ⟨blk_put (blk_put (cs' := #[.slice none 0 0, .slice none 0 0]) HR9.out 0 _ rfl) 1 _ rfl⟩
    refine bodyPost_ret (results_ct rfl _ _ (w.heap.size + 1 + 1) 27 #[.slice none 0 0, .slice none 0 0] (0, 0) _ rfl HT4.out Try.underlying27 rfl (by kernel_rfl)) rfl ?_
    exact ⟨_, _, rfl, Kd.R_nil _ _ _ _ _, Kd.S_nil _ _ _ _ _, below_set (below_set HB.out HGE.out) HGE.out⟩
  | true =>
    rw [hv] at HV
    cases hv2 : validD m0 m1 with
    | false =>
      rw [hv2] at HV2
      have e : ctR l0 l1 m0 m1 = ([], [], false) := by unfold ctR; rw [hv2]; rw [if_neg]; rintro ⟨_, h⟩; cases h
      rw [e]
      subst hOA hOB hOD
      clear hv hv2 e hr0 hr1 hs0 hs1 hc0 hc1 hd0 hd1
      go_enter Try.func24, Try.ntmps24
      go_wp2_with (first | (go_at_call 39; (with_reducible refine (HV.out _ ?hq0).mono ?_); (case hq0 => exact HB0.out); rintro e w1 ⟨rfl, hb⟩; have HB1 := bt_ HB0 hb; have HR1 := am_ (blk_below HR8.out hb); have ha0 := am_ (pw_cell_below hb KA0.out); have ha1 := am_ (pw_cell_below hb KA1.out); have hb0 := pw_cell_below hb KB0.out; have hb1 := pw_cell_below hb KB1.out; clear hb) | (go_at_call 39; (with_reducible refine (HV2.out _ ?hq1).mono ?_); (case hq1 => exact HB1.out); rintro e w2 ⟨rfl, hb⟩; have HB := bt_ HB1 hb; have HR9 := am_ (blk_below HR1.out hb); have hcz0 : World.cell? w2 ⟨w.heap.size + 1 + 1, 0, none⟩ = some (.slice none 0 0) := (blk_cell HR9.out 0).trans rfl; have hcz1 : World.cell? w2 ⟨w.heap.size + 1 + 1, 1, none⟩ = some (.slice none 0 0) := (blk_cell HR9.out 1).trans rfl; have hfz0 := blk_frozen HR9.out 0; have hfz1 := blk_frozen HR9.out 1; clear hb hb0 hb1))
      have HT4 : Aside0 (((w2.setCell ⟨w.heap.size + 1 + 1, 0, none⟩ (.slice none 0 0)).setCell ⟨w.heap.size + 1 + 1, 1, none⟩ (.slice none 0 0)).heap[w.heap.size + 1 + 1]? = some (.cells #[.slice none 0 0, .slice none 0 0] 27 (0, 0))) := ⟨blk_put (blk_put (cs' := #[.slice none 0 0, .slice none 0 0]) HR9.out 0 _ rfl) 1 _ rfl⟩
      refine bodyPost_ret (results_ct rfl _ _ (w.heap.size + 1 + 1) 27 #[.slice none 0 0, .slice none 0 0] (0, 0) _ rfl HT4.out Try.underlying27 rfl (by kernel_rfl)) rfl ?_
      exact ⟨_, _, rfl, Kd.R_nil _ _ _ _ _, Kd.S_nil _ _ _ _ _, below_set (below_set HB.out HGE.out) HGE.out⟩
    | true =>
      rw [hv2] at HV2
      obtain ⟨n1, n2, n3, n4⟩ := validD_facts hv
      obtain ⟨k1, k2, k3, k4⟩ := validD_facts hv2
      have hf0 := fits_valid hv
      have hf := fits_valid hv2
      have hz0 : (0 ≤ ((0 : Int), (0 : Int)).1 ∧ ((0 : Int), (0 : Int)).1 < (l0.length : Int)) ∧ U64 ((0 : Int), (0 : Int)).2 := ⟨⟨by show (0 : Int) ≤ 0; omega, by show (0 : Int) < _; omega⟩, by show (0 : Int) ≤ 0; omega, by show (0 : Int) < _; omega⟩
      have hdz := bg_dom (a := l0) (x := ((0 : Int), (0 : Int))) hz0.1 hz0.2
      have HBG : Aside0 (∀ (Ga : Nat) (W : World), Below w.heap.size w W → W.cell? ⟨Ga, 0, none⟩ = some (.slice A0 l0.length c0) → Calls Try.prog 77 #[.agg #[.int .i64 0, .int .u64 0], .pointer (some ⟨Ga, 0, none⟩)] W fun e W' => e = .returned (.agg #[.int .i64 (bgP l0 ((0 : Int), (0 : Int))).1, .int .u64 (bgP l0 ((0 : Int), (0 : Int))).2]) ∧ Below W.heap.size W W') := ⟨fun Ga W hb h => ctBg A0 c0 l0 Ga ((0 : Int), (0 : Int)) W hz0.1.1 hz0.1.2 h (Kd.C_below hr0 hb)⟩
      have HEX : Aside0 (∀ (Ga Gb G : Nat) (W : World), Below w.heap.size w W → W.cell? ⟨Ga, 0, none⟩ = some (.slice A0 l0.length c0) → W.cell? ⟨Ga, 1, none⟩ = some (.slice A1 l1.length c1) → W.cell? ⟨Gb, 0, none⟩ = some (.slice B0 m0.length d0) → W.cell? ⟨Gb, 1, none⟩ = some (.slice B1 m1.length d1) → W.cell? ⟨G, 0, none⟩ = some (.func (.func 77) #[] #[.pointer (some ⟨Ga, 0, none⟩)]) →
          Calls Try.prog 78 #[.agg #[.int .i64 (bgP l0 ((0 : Int), (0 : Int))).1, .int .u64 (bgP l0 ((0 : Int), (0 : Int))).2], .int .i64 400, .func (.func 79) #[] #[.pointer (some ⟨Gb, 0, none⟩)], .func (.func 81) #[] #[.pointer (some ⟨G, 0, none⟩), .pointer (some ⟨Ga, 0, none⟩), .pointer (some ⟨Gb, 0, none⟩)]] W (fun e w' => ∃ v0 v1 vl : Value, e = .returned (.tuple #[.agg #[v0, v1], vl, .bool (ctX l0 l1 m0 m1).isSome]) ∧ Kd.R Kd.bool 4 w' W.heap.size (fun _ => True) v0 ((ctX l0 l1 m0 m1).getD ([], [], [])).2.1 ∧ Kd.S (Kd.slice 3 (Kd.int .i64)) 67 w' W.heap.size (fun _ => True) v1 ((ctX l0 l1 m0 m1).getD ([], [], [])).2.2 ∧ Below W.heap.size W w')) := ⟨fun Ga Gb G W hb h0 h1 h2 h3 h4 =>
        explored_reached (dom := fun x => (0 ≤ x.1 ∧ x.1 < (l0.length : Int)) ∧ U64 x.2) 400 (by omega) (by omega) (acCt m0) (nxCt l0 l1 m1) (bgP l0 ((0 : Int), (0 : Int))) 79 81 #[.pointer (some ⟨Gb, 0, none⟩)] #[.pointer (some ⟨G, 0, none⟩), .pointer (some ⟨Ga, 0, none⟩), .pointer (some ⟨Gb, 0, none⟩)] (enters_of Try.func79 (by kernel_rfl) rfl) (enters_of Try.func81 (by kernel_rfl) rfl) W
          hdz (fun x j hx hj => ct_dom hf0 hf k2 x j hx hj) (fun x hx => wf_ct n2 hx)
          (fun x hx W' hb' => ctAcc B0 d0 m0 B1 d1 m1 Gb x W' k2 hx.2 (pw_cell_below hb' h2) (pw_cell_below hb' h3) (Kd.C_below (Kd.C_below hs0 hb) hb') hd0 (Kd.C_below (Kd.C_below hs1 hb) hb') hd1)
          (fun x j hx hj W' hb' => ctNext A0 c0 l0 A1 c1 l1 B0 d0 m0 B1 d1 m1 G Ga Gb x j hj W' hf0 hf k2 hx.2 hx.1.1 hx.1.2 (pw_cell_below hb' h4) (pw_cell_below hb' h0) (pw_cell_below hb' h1) (pw_cell_below hb' h2) (pw_cell_below hb' h3) (Kd.C_below (Kd.C_below hr0 hb) hb') hc0 (Kd.C_below (Kd.C_below hr1 hb) hb') hc1 (Kd.C_below (Kd.C_below hs0 hb) hb') hd0 (Kd.C_below (Kd.C_below hs1 hb) hb') hd1)⟩
      cases hx : ctX l0 l1 m0 m1 with
      | none =>
        have e : ctR l0 l1 m0 m1 = ([], [], false) := by unfold ctR; rw [if_pos ⟨hv, hv2⟩, hx]
        rw [e]
        rw [hx] at HEX
        simp only [Option.isSome_none, Option.getD_none] at HEX
        generalize bgP l0 ((0 : Int), (0 : Int)) = z at HBG HEX
        subst hOA hOB hOD
        clear hv hv2 e hx hr0 hr1 hs0 hs1 hc0 hc1 hd0 hd1 n1 n2 n3 n4 k1 k2 k3 k4 hf hf0 hdz hz0
        go_enter Try.func24, Try.ntmps24
        go_wp2_with (first | (go_at_call 39; (with_reducible refine (HV.out _ ?hq0).mono ?_); (case hq0 => exact HB0.out); rintro e w1 ⟨rfl, hb⟩; have HB1 := bt_ HB0 hb; have HR1 := am_ (blk_below HR8.out hb); have ha0 := am_ (pw_cell_below hb KA0.out); have ha1 := am_ (pw_cell_below hb KA1.out); have hb0 := pw_cell_below hb KB0.out; have hb1 := pw_cell_below hb KB1.out; clear hb) | (go_at_call 39; (with_reducible refine (HV2.out _ ?hq1).mono ?_); (case hq1 => exact HB1.out); rintro e w2 ⟨rfl, hb⟩; have HB2 := bt_ HB1 hb; have HR2 := am_ (blk_below HR1.out hb); have ha20 := am_ (pw_cell_below hb ha0.out); have ha21 := am_ (pw_cell_below hb ha1.out); have hb20 := am_ (pw_cell_below hb hb0); have hb21 := am_ (pw_cell_below hb hb1); clear hb hb0 hb1) | (go_at_call 77; (with_reducible refine (HBG.out _ _ ?b0 ?b1).mono ?_); (case b0 => exact below_alloc HB2.out _); (case b1 => exact pw_cell_below (below_alloc (Below.refl _ _) _) ha20.out); rintro e w3 ⟨rfl, hb⟩; have hba := below_alloc HB2.out (Obj.cells #[.func (.func 77) #[] #[.pointer (some ⟨w.heap.size, 0, none⟩)]] 87); have HB3 := am_ (below_then hba hba.size hb); have HR3 := am_ (blk_below (blk_alloc HR2.out (Obj.cells #[.func (.func 77) #[] #[.pointer (some ⟨w.heap.size, 0, none⟩)]] 87)) hb); have hal := below_alloc (Below.refl w2.heap.size w2) (Obj.cells #[.func (.func 77) #[] #[.pointer (some ⟨w.heap.size, 0, none⟩)]] 87); have hGc : World.cell? (w2.alloc (Obj.cells #[.func (.func 77) #[] #[.pointer (some ⟨w.heap.size, 0, none⟩)]] 87)) ⟨w2.heap.size, 0, none⟩ = some (.func (.func 77) #[] #[.pointer (some ⟨w.heap.size, 0, none⟩)]) := (by simp); have hG3 := am_ (pw_cell_below hb hGc); have ha30 := am_ (pw_cell_below hb (pw_cell_below hal ha20.out)); have ha31 := am_ (pw_cell_below hb (pw_cell_below hal ha21.out)); have hb30 := am_ (pw_cell_below hb (pw_cell_below hal hb20.out)); have hb31 := am_ (pw_cell_below hb (pw_cell_below hal hb21.out)); clear hb hba hal hGc) | (go_at_call 78; (with_reducible refine (HEX.out _ _ _ _ ?z0 ?z1 ?z2 ?z3 ?z4 ?z5).mono ?_); (case z0 => exact HB3.out); (case z1 => exact ha30.out); (case z2 => exact ha31.out); (case z3 => exact hb30.out); (case z4 => exact hb31.out); (case z5 => exact hG3.out); rintro e w4 ⟨v0, v1, vl, rfl, hq0, hq1, hb⟩; have HR10 := am_ (blk_below HR3.out hb); have HB4 := bt_ HB3 hb; obtain ⟨E0, e0c, e0⟩ := Kd.R_slice hq0; rw [List.length_nil] at e0; subst e0; obtain ⟨E1, e1c, e1⟩ := Kd.S_slice hq1; rw [List.length_nil] at e1; subst e1; have HR12 := am_ (blk_alloc HR10.out (Obj.cells #[.slice E0 0 e0c, .slice E1 0 e1c] 27)); have HB12 := am_ (below_alloc HB4.out (Obj.cells #[.slice E0 0 e0c, .slice E1 0 e1c] 27)); clear hq0 hq1 hb; have hcz0 : World.cell? (w4.alloc (Obj.cells #[.slice E0 0 e0c, .slice E1 0 e1c] 27)) ⟨w.heap.size + 1 + 1, 0, none⟩ = some (.slice none 0 0) := (blk_cell HR12.out 0).trans rfl; have hcz1 : World.cell? (w4.alloc (Obj.cells #[.slice E0 0 e0c, .slice E1 0 e1c] 27)) ⟨w.heap.size + 1 + 1, 1, none⟩ = some (.slice none 0 0) := (blk_cell HR12.out 1).trans rfl; have hfz0 := blk_frozen HR12.out 0; have hfz1 := blk_frozen HR12.out 1))
        have HT4 : Aside0 ((((w4.alloc (Obj.cells #[.slice E0 0 e0c, .slice E1 0 e1c] 27)).setCell ⟨w.heap.size + 1 + 1, 0, none⟩ (.slice none 0 0)).setCell ⟨w.heap.size + 1 + 1, 1, none⟩ (.slice none 0 0)).heap[w.heap.size + 1 + 1]? = some (.cells #[.slice none 0 0, .slice none 0 0] 27 (0, 0))) := ⟨blk_put (blk_put (cs' := #[.slice none 0 0, .slice none 0 0]) HR12.out 0 _ rfl) 1 _ rfl⟩
        refine bodyPost_ret (results_ct rfl _ _ (w.heap.size + 1 + 1) 27 #[.slice none 0 0, .slice none 0 0] (0, 0) _ rfl HT4.out Try.underlying27 rfl (by kernel_rfl)) rfl ?_
        exact ⟨_, _, rfl, Kd.R_nil _ _ _ _ _, Kd.S_nil _ _ _ _ _, below_set (below_set HB12.out HGE.out) HGE.out⟩
      | some q =>
        have e : ctR l0 l1 m0 m1 = fitD q.2.1 q.2.2 := by unfold ctR; rw [if_pos ⟨hv, hv2⟩, hx]
        rw [e]
        rw [hx] at HEX
        simp only [Option.isSome_some, Option.getD_some] at HEX
        have hq := expl_auto (most := 400) (by omega) (show expl (acCt m0) (nxCt l0 l1 m1) 400 (400 + 2) ([bgP l0 ((0 : Int), (0 : Int))], [], []) 0 = some q from hx)
        obtain ⟨g1, g2⟩ := hq.1.rows
        have HFT := am_ (pd_fit g1 (Nat.le_trans hq.2 (by omega)) g2)
        generalize fitD q.2.1 q.2.2 = fr at HFT ⊢
        obtain ⟨f1, f2, f3⟩ := fr
        generalize bgP l0 ((0 : Int), (0 : Int)) = z at HBG HEX
        subst hOA hOB hOD
        clear hv hv2 e hx hr0 hr1 hs0 hs1 hc0 hc1 hd0 hd1 n1 n2 n3 n4 k1 k2 k3 k4 hf hf0 hdz hz0 hq g1 g2
        go_enter Try.func24, Try.ntmps24
        go_wp2_with (first | (go_at_call 39; (with_reducible refine (HV.out _ ?hq0).mono ?_); (case hq0 => exact HB0.out); rintro e w1 ⟨rfl, hb⟩; have HB1 := bt_ HB0 hb; have HR1 := am_ (blk_below HR8.out hb); have ha0 := am_ (pw_cell_below hb KA0.out); have ha1 := am_ (pw_cell_below hb KA1.out); have hb0 := pw_cell_below hb KB0.out; have hb1 := pw_cell_below hb KB1.out; clear hb) | (go_at_call 39; (with_reducible refine (HV2.out _ ?hq1).mono ?_); (case hq1 => exact HB1.out); rintro e w2 ⟨rfl, hb⟩; have HB2 := bt_ HB1 hb; have HR2 := am_ (blk_below HR1.out hb); have ha20 := am_ (pw_cell_below hb ha0.out); have ha21 := am_ (pw_cell_below hb ha1.out); have hb20 := am_ (pw_cell_below hb hb0); have hb21 := am_ (pw_cell_below hb hb1); clear hb hb0 hb1) | (go_at_call 77; (with_reducible refine (HBG.out _ _ ?b0 ?b1).mono ?_); (case b0 => exact below_alloc HB2.out _); (case b1 => exact pw_cell_below (below_alloc (Below.refl _ _) _) ha20.out); rintro e w3 ⟨rfl, hb⟩; have hba := below_alloc HB2.out (Obj.cells #[.func (.func 77) #[] #[.pointer (some ⟨w.heap.size, 0, none⟩)]] 87); have HB3 := am_ (below_then hba hba.size hb); have HR3 := am_ (blk_below (blk_alloc HR2.out (Obj.cells #[.func (.func 77) #[] #[.pointer (some ⟨w.heap.size, 0, none⟩)]] 87)) hb); have hal := below_alloc (Below.refl w2.heap.size w2) (Obj.cells #[.func (.func 77) #[] #[.pointer (some ⟨w.heap.size, 0, none⟩)]] 87); have hGc : World.cell? (w2.alloc (Obj.cells #[.func (.func 77) #[] #[.pointer (some ⟨w.heap.size, 0, none⟩)]] 87)) ⟨w2.heap.size, 0, none⟩ = some (.func (.func 77) #[] #[.pointer (some ⟨w.heap.size, 0, none⟩)]) := (by simp); have hG3 := am_ (pw_cell_below hb hGc); have ha30 := am_ (pw_cell_below hb (pw_cell_below hal ha20.out)); have ha31 := am_ (pw_cell_below hb (pw_cell_below hal ha21.out)); have hb30 := am_ (pw_cell_below hb (pw_cell_below hal hb20.out)); have hb31 := am_ (pw_cell_below hb (pw_cell_below hal hb21.out)); clear hb hba hal hGc) | (go_at_call 78; (with_reducible refine (HEX.out _ _ _ _ ?z0 ?z1 ?z2 ?z3 ?z4 ?z5).mono ?_); (case z0 => exact HB3.out); (case z1 => exact ha30.out); (case z2 => exact ha31.out); (case z3 => exact hb30.out); (case z4 => exact hb31.out); (case z5 => exact hG3.out); rintro e w4 ⟨v0, v1, vl, rfl, hq0, hq1, hb⟩; have HR10 := am_ (blk_below HR3.out hb); have HB4 := bt_ HB3 hb; obtain ⟨E0, e0c, e0⟩ := Kd.R_slice hq0; subst e0; obtain ⟨E1, e1c, e1⟩ := Kd.S_slice hq1; subst e1; have HQ0 := am_ hq0; have HQ1 := am_ hq1; clear hq0 hq1 hb) | (go_at_call 68; (with_reducible refine (impl_fitting.calls _ _ q.2.1 _ _ q.2.2 f1 f2 f3 _ ?y0 ?y1 ?y2 ?y3 HFT.out).mono ?_); (case y0 => exact Kd.C_below (Kd.R_reads' HQ0.out).2.2 (below_alloc (Below.refl _ _) _)); (case y1 => exact (Kd.R_reads' HQ0.out).2.1); (case y2 => exact Kd.C_below (Kd.S_reads' HQ1.out).2.2 (below_alloc (Below.refl _ _) _)); (case y3 => exact (Kd.S_reads' HQ1.out).2.1); rintro e w5 ⟨z0, z1, rfl, hz0, hz1, hb⟩; have HR11 := am_ (blk_below (blk_alloc HR10.out (Obj.cells #[.slice E0 q.2.1.length e0c, .slice E1 q.2.2.length e1c] 27)) hb); have hba := below_alloc HB4.out (Obj.cells #[.slice E0 q.2.1.length e0c, .slice E1 q.2.2.length e1c] 27); have HB5 := am_ (below_then hba hba.size hb); have HZ0 := am_ (Kd.R_lower hz0 hba.size); have HZ1 := am_ (Kd.S_lower hz1 hba.size); obtain ⟨Z0, z0c, e0⟩ := Kd.R_slice hz0; subst e0; obtain ⟨Z1, z1c, e1⟩ := Kd.S_slice hz1; subst e1; have hcz0 : World.cell? w5 ⟨w.heap.size + 1 + 1, 0, none⟩ = some (.slice none 0 0) := (blk_cell HR11.out 0).trans rfl; have hcz1 : World.cell? w5 ⟨w.heap.size + 1 + 1, 1, none⟩ = some (.slice none 0 0) := (blk_cell HR11.out 1).trans rfl; have hfz0 := blk_frozen HR11.out 0; have hfz1 := blk_frozen HR11.out 1; clear hz0 hz1 hb hba))
        have HB4' : Aside0 ((w5.setCell ⟨w.heap.size + 1 + 1, 0, none⟩ (.slice Z0 f1.length z0c)).heap[w.heap.size + 1 + 1]? = some (.cells #[.slice Z0 f1.length z0c, .slice none 0 0] 27 (0, 0))) := ⟨blk_put HR11.out 0 _ rfl⟩
        have HT4 : Aside0 (((w5.setCell ⟨w.heap.size + 1 + 1, 0, none⟩ (.slice Z0 f1.length z0c)).setCell ⟨w.heap.size + 1 + 1, 1, none⟩ (.slice Z1 f2.length z1c)).heap[w.heap.size + 1 + 1]? = some (.cells #[.slice Z0 f1.length z0c, .slice Z1 f2.length z1c] 27 (0, 0))) := ⟨blk_put HB4'.out 1 _ rfl⟩
        refine bodyPost_ret (results_ct rfl _ _ (w.heap.size + 1 + 1) 27 #[.slice Z0 f1.length z0c, .slice Z1 f2.length z1c] (0, 0) _ rfl HT4.out Try.underlying27 rfl (by kernel_rfl)) rfl ?_
        exact ⟨_, _, rfl, Kd.R_set (Kd.R_set HZ0.out HR11.out (by decide) 0 _) HB4'.out (by decide) 1 _, Kd.S_set (Kd.S_set HZ1.out HR11.out (by decide) 0 _) HB4'.out (by decide) 1 _, below_set (below_set HB5.out HGE.out) HGE.out⟩
end Go.Proofs.Ytogamkblkoobkaa.Wk
end
