/- The law FnExactWordDfa holds for every input. No condition. -/
import Derived.Test.YtogamkblkoobkaaQFnExactWordDfa8
import Derived.Test.YtogamkblkoobkaaQFnExactWordDfa9
import Derived.Test.YtogamkblkoobkaaQFnExactWordDfa5
import Derived.Shelf.Abstract
import Derived.Lib.Walk
import Derived.Test.YtogamkblkoobkaaQFnExactWordDfa4
import Derived.Test.YtogamkblkoobkaaQFnExactWordDfa3
import Derived.Test.YtogamkblkoobkaaQFnExactWordDfa2
import Derived.Test.YtogamkblkoobkaaRows
import Derived.WalkKit
import Derived.ProofKit
import Derived.OpenShut
import Derived.ShutString
import Derived.ChangeOld
import Derived.Below
import Derived.SizedLaws
import Derived.Lib.SmallJoins
import Derived.ChangeSlices
section
namespace Go.Proofs.Ytogamkblkoobkaa.Can
open Go.RowKit Go.Proofs.Ytogamkblkoobkaa Go.Proofs.Ytogamkblkoobkaa.P Go.Proofs.Ytogamkblkoobkaa.Wk Go.Proofs.Ytogamkblkoobkaa.Lg Go.Proofs.Ytogamkblkoobkaa.Pl Go.Proofs.Ytogamkblkoobkaa.Mp Go.Proofs.Ytogamkblkoobkaa.Bf Go.Proofs.Ytogamkblkoobkaa.Mn Go.Proofs.YtogamkblkoobkaaW.PrintWords Go.Proofs.YtogamkblkoobkaaW.PrintLast Go.Proofs.YtogamkblkoobkaaW.PrintMore
set_option linter.unusedVariables false
set_option linter.unusedSimpArgs false
set_option linter.unusedSectionVars false
def wdCell (s : ByteArray) (q : Nat) (k : Int) : Int := if q < s.size ∧ letIdx (bt s q) = k then (q : Int) + 1 else (s.size : Int) + 1
def wdRow (s : ByteArray) (q : Nat) : List Int := [wdCell s q 0, wdCell s q 1, wdCell s q 2]
def wdA (s : ByteArray) : List Bool := (List.range (s.size + 2)).map fun q : Nat => ((q : Int) == (s.size : Int))
def wdN (s : ByteArray) : List (List Int) := (List.range (s.size + 2)).map (wdRow s)
def wdOf (s : ByteArray) : List Bool × List (List Int) := if word s = true then minD (wdA s) (wdN s) 0 else ([], [])
theorem wd_cell {s : ByteArray} {q : Nat} (k : Int) (hq : q < s.size + 2) : 0 ≤ wdCell s q k ∧ wdCell s q k < ((s.size + 2 : Nat) : Int) := by
  unfold wdCell
  split <;> omega
theorem wd_fits (s : ByteArray) : (wdN s).length = (wdA s).length ∧ (wdA s).length = s.size + 2 ∧ ∀ r ∈ wdN s, r.length = 3 ∧ ∀ q ∈ r, 0 ≤ q ∧ q < ((wdA s).length : Int) := by
  have h1 : (wdA s).length = s.size + 2 := by simp [wdA]
  refine ⟨by simp [wdA, wdN], h1, fun r hr => ?_⟩
  obtain ⟨q, hq, rfl⟩ := List.mem_map.mp hr
  rw [List.mem_range] at hq
  refine ⟨rfl, fun x hx => ?_⟩
  rw [h1]
  simp only [wdRow, List.mem_cons, List.not_mem_nil, or_false] at hx
  rcases hx with rfl | rfl | rfl <;> exact wd_cell _ hq
theorem wd_Fits (s : ByteArray) : Fits (wdA s) (wdN s) := by
  obtain ⟨h1, h2, h3⟩ := wd_fits s
  refine ⟨h1, fun q hq => ?_⟩
  have hlt : q.toNat < (wdN s).length := by omega
  unfold rowOf
  rw [List.getD_eq_getElem?_getD, List.getElem?_eq_getElem hlt]
  exact h3 _ (List.getElem_mem hlt)
theorem word_size {s : ByteArray} (h : word s = true) : s.size ≤ 30 := by
  unfold word at h
  rw [Bool.and_eq_true] at h
  exact of_decide_eq_true h.2
theorem word_let {s : ByteArray} (h : word s = true) (i : Nat) (hi : i < s.size) : 0 ≤ letIdx (bt s i) := by
  unfold word lets at h
  rw [Bool.and_eq_true, List.all_eq_true] at h
  exact of_decide_eq_true (h.1 _ (bt_mem s i hi))
section
variable {s : ByteArray} (hs : s.size ≤ 30)
include hs
theorem wd_step (q : Nat) (hq : q < s.size + 2) (A : List Bool) (M : List (List Int)) (row : List Int) (hr : row.length < 100) (j : Nat) (hj : j < 3) {r : List Bool × List (List Int)}
    (h : Ev (fun k => spec_l6Word.l1 k s ((s.size : Int) + 1) (q : Int) (row ++ [wdCell s q (j : Int)]) ((j + 1 : Nat) : Int) A M) r) :
    Ev (fun k => spec_l6Word.l1 k s ((s.size : Int) + 1) (q : Int) row (j : Int) A M) r := by
  refine next ?_
  simp only [spec_l6Word.l1, if_pos (show (j : Int) < 3 by omega), if_pos (show row.length < 17592186044416 by omega)]
  by_cases hq2 : q < s.size
  · simp only [if_pos (show (q : Int) < (s.size : Int) by omega), if_pos (show (0 : Int) ≤ (q : Int) by omega)]
    refine Ev.bind (spec_letter _) ?_
    by_cases e : letIdx (bt s (q : Int)) = (j : Int)
    · simp only [if_pos e]
      rw [up1 (show q < 9223372036854775807 by omega), up1 (show j < 9223372036854775807 by omega)]
      have ec : wdCell s q (j : Int) = ((q + 1 : Nat) : Int) := by unfold wdCell; rw [if_pos ⟨hq2, e⟩]; rfl
      rw [ec] at h
      exact h
    · simp only [if_neg e]
      rw [up1 (show j < 9223372036854775807 by omega)]
      have ec : wdCell s q (j : Int) = (s.size : Int) + 1 := by unfold wdCell; rw [if_neg (fun x => e x.2)]
      rw [ec] at h
      exact h
  · simp only [if_neg (show ¬ (q : Int) < (s.size : Int) by omega)]
    rw [up1 (show j < 9223372036854775807 by omega)]
    have ec : wdCell s q (j : Int) = (s.size : Int) + 1 := by unfold wdCell; rw [if_neg (fun x => hq2 x.1)]
    rw [ec] at h
    exact h
theorem wd_l0 : ∀ d q : Nat, q + d = s.size + 2 → Ev (fun k => spec_l6Word.l0 k s ((s.size : Int) + 1) (q : Int) ((List.range q).map fun q : Nat => ((q : Int) == (s.size : Int))) ((List.range q).map (wdRow s))) (minD (wdA s) (wdN s) 0) := by
  intro d
  induction d with
  | zero =>
    intro q hq
    refine next ?_
    simp only [spec_l6Word.l0, if_neg (show ¬ (q : Int) ≤ (s.size : Int) + 1 by omega)]
    obtain ⟨h1, h2, h3⟩ := wd_fits s
    have := min_same (wd_Fits s) (by omega) (by omega)
    rw [show q = s.size + 2 by omega]
    generalize minD (wdA s) (wdN s) 0 = res at this ⊢
    show Ev (fun k => (spec_l5Minimal.f k (wdA s) (wdN s)).bind _) _
    exact this.bind (Ev.now _)
  | succ d ih =>
    intro q hq
    refine next ?_
    simp only [spec_l6Word.l0, if_pos (show (q : Int) ≤ (s.size : Int) + 1 by omega)]
    have IH := ih (q + 1) (by omega)
    rw [List.range_succ, List.map_append, List.map_append, List.map_singleton, List.map_singleton] at IH
    have hA : ((List.range q).map fun q : Nat => ((q : Int) == (s.size : Int))).length = q := by simp
    have hM : ((List.range q).map (wdRow s)).length = q := by simp
    generalize ((List.range q).map fun q : Nat => ((q : Int) == (s.size : Int))) = A at IH hA ⊢
    generalize (List.range q).map (wdRow s) = M at IH hM ⊢
    generalize minD (wdA s) (wdN s) 0 = res at IH ⊢
    have h3 : Ev (fun k => spec_l6Word.l1 k s ((s.size : Int) + 1) (q : Int) ((([] ++ [wdCell s q ((0 : Nat) : Int)]) ++ [wdCell s q ((1 : Nat) : Int)]) ++ [wdCell s q ((2 : Nat) : Int)]) ((2 + 1 : Nat) : Int) A M) res := by
      refine next ?_
      simp only [spec_l6Word.l1, if_neg (show ¬ ((2 + 1 : Nat) : Int) < 3 by decide), hA, hM, if_pos (show q < 140737488355328 by omega), if_pos (show q < 5864062014805 by omega)]
      rw [up1 (show q < 9223372036854775807 by omega)]
      exact IH
    have h2 := wd_step hs q (by omega) A M _ (by simp) 2 (by omega) h3
    have h1 := wd_step hs q (by omega) A M _ (by simp) 1 (by omega) h2
    exact wd_step hs q (by omega) A M _ (by simp) 0 (by omega) h1
theorem spec_l6Word_ev : Ev (fun k => spec_l6Word.f k s) (minD (wdA s) (wdN s) 0) := by
  simp only [spec_l6Word.f]
  rw [w64 (by omega) (by omega)]
  exact wd_l0 hs (s.size + 2) 0 (by omega)
end
theorem spec_wordDfa (s : ByteArray) (hs : s.size ≤ 140737488351232) : Ev (fun k => spec_WordDfa.f k s) ((wdOf s).1, (wdOf s).2, word s) := by
  simp only [spec_WordDfa.f, wdOf]
  refine Ev.bind (spec_word s hs) ?_
  by_cases h : word s = true
  · simp only [h, if_true]
    have := spec_l6Word_ev (word_size h)
    generalize minD (wdA s) (wdN s) 0 = res at this ⊢
    exact this.bind (Ev.now _)
  · simp only [if_neg h]
    exact ev_some (by rw [Bool.not_eq_true] at h; rw [h])
theorem wdRow_set {s : ByteArray} {q : Nat} (hq : q < s.size) (h0 : 0 ≤ letIdx (bt s q)) : ([(s.size : Int) + 1, (s.size : Int) + 1, (s.size : Int) + 1]).set (letIdx (bt s q)).toNat ((q + 1 : Nat) : Int) = wdRow s q := by
  have h2 := letIdx_range (bt s q)
  unfold wdRow wdCell
  generalize letIdx (bt s q) = t at h0 h2
  rcases (show t = 0 ∨ t = 1 ∨ t = 2 by omega) with rfl | rfl | rfl <;> simp [hq]
theorem wdRow_end {s : ByteArray} {q : Nat} (hq : ¬ q < s.size) : wdRow s q = [(s.size : Int) + 1, (s.size : Int) + 1, (s.size : Int) + 1] := by
  unfold wdRow wdCell
  simp [hq]
theorem impl_wd_l0 {s : ByteArray} (h : word s = true) : ∀ d q : Nat, q + d = s.size + 2 → Ev (fun k => impl_WordDfa.l0 k s (s.size : Int) ((s.size + 2 : Nat) : Int) (q : Int) ((List.range q).map fun q : Nat => ((q : Int) == (s.size : Int))) ((List.range q).map (wdRow s))) ((minD (wdA s) (wdN s) 0).1, (minD (wdA s) (wdN s) 0).2, true) := by
  have hs := word_size h
  intro d
  induction d with
  | zero =>
    intro q hq
    refine next ?_
    simp only [impl_WordDfa.l0, if_neg (show ¬ (q : Int) < ((s.size + 2 : Nat) : Int) by omega)]
    obtain ⟨h1, h2, h3⟩ := wd_fits s
    rw [show q = s.size + 2 by omega]
    show Ev (fun k => (impl_minimized.f (wdA s) (wdN s) 0).bind _) _
    unfold impl_minimized.f
    rw [if_pos ⟨h1, by omega, h3, by omega, by omega⟩]
    exact ev_some rfl
  | succ d ih =>
    intro q hq
    refine next ?_
    have IH := ih (q + 1) (by omega)
    rw [List.range_succ, List.map_append, List.map_append] at IH
    simp only [impl_WordDfa.l0, if_pos (show (q : Int) < ((s.size + 2 : Nat) : Int) by omega), Option.bind_some, List.length_map, List.length_range, if_pos (show q < 140737488355328 by omega), if_pos (show q < 5864062014805 by omega)]
    have e1 : wrap64 ((s.size : Int) + 1) = (s.size : Int) + 1 := w64 (by omega) (by omega)
    by_cases hq2 : q < s.size
    · have hl := word_let h q hq2
      have hl2 := letIdx_range (bt s (q : Int))
      simp only [if_pos (show (q : Int) < (s.size : Int) by omega), if_pos (show (0 : Int) ≤ (q : Int) by omega), impl_letter (bt_range s (q : Int)).1 (bt_range s (q : Int)).2, Option.bind_some, if_pos hl]
      rw [e1, up1 (show q < 9223372036854775807 by omega), wdRow_set hq2 hl]
      have e3 : letIdx (bt s (q : Int)) < (([(s.size : Int) + 1, (s.size : Int) + 1, (s.size : Int) + 1] : List Int).length : Int) := by
        show letIdx (bt s (q : Int)) < 3
        omega
      simp only [if_pos e3]
      exact IH
    · simp only [if_neg (show ¬ (q : Int) < (s.size : Int) by omega)]
      rw [e1, up1 (show q < 9223372036854775807 by omega), ← wdRow_end hq2]
      exact IH
theorem impl_wordDfa (s : ByteArray) (hs : s.size ≤ 140737488351232) : Ev (fun k => impl_WordDfa.f k s) ((wdOf s).1, (wdOf s).2, word s) := by
  simp only [impl_WordDfa.f, wdOf]
  refine Ev.bind (impl_word s hs) ?_
  by_cases h : word s = true
  · simp only [h, if_true]
    have hs2 := word_size h
    rw [show wrap64 ((s.size : Int) + 2) = ((s.size + 2 : Nat) : Int) by rw [w64 (by omega) (by omega)]; rfl]
    exact impl_wd_l0 h (s.size + 2) 0 (by omega)
  · simp only [if_neg h]
    exact ev_some (by rw [Bool.not_eq_true] at h; rw [h])
theorem wdOf_len (s : ByteArray) : (wdOf s).1.length ≤ 40 ∧ (wdOf s).2.length ≤ 40 ∧ ∀ r ∈ (wdOf s).2, r.length = 3 := by
  unfold wdOf
  by_cases h : word s = true
  · rw [if_pos h]
    have hs2 := word_size h
    obtain ⟨h1, h2, h3⟩ := wd_fits s
    obtain ⟨l1, l2, l3⟩ := minD_len (wd_Fits s) (st := 0) (by omega)
    exact ⟨by omega, by omega, l3⟩
  · rw [if_neg h]
    simp
end Go.Proofs.Ytogamkblkoobkaa.Can
end
section
namespace Go.Proofs.Ytogamkblkoobkaa.Wk
open Go.RowKit Go.Shelf Go.Proofs.Ytogamkblkoobkaa.P Go.Proofs.Ytogamkblkoobkaa.Pl Go.Proofs.Ytogamkblkoobkaa.Mp Go.Proofs.Ytogamkblkoobkaa.Can Go.Proofs.YtogamkblkoobkaaW.PrintWords Go.Proofs.YtogamkblkoobkaaW.PrintLast Go.Proofs.YtogamkblkoobkaaW.PrintMore
set_option linter.unusedVariables false
set_option linter.unusedSimpArgs false
set_option maxRecDepth 100000 in
set_option maxHeartbeats 16000000 in
theorem lawWf (a0 : ByteArray) (w : World)
    (hz0 : a0.size ≤ 140737488351232) :
    Calls Try.prog 5 #[.string a0] w fun e w' => e = .returned (.bool true) ∧ Below w.heap.size w w' := by
  have hu28 := Try.underlying27
  have HB_ := Aside0.mk (Below.refl w.heap.size w)
  go_enter Try.func5, Try.ntmps5
  by_cases hbig : a0.size > 1048576
  · have d1 : decide ((a0.size : Int) > 1048576) = true := decide_eq_true (by omega)
    have d2 : decide (1048576 < (a0.size : Int)) = true := decide_eq_true (by omega)
    have p1 : (1048576 < (a0.size : Int)) = True := eq_true (by omega)
    clear hbig
    go_wp2
    go_ret
    exact ⟨rfl, HB_.out⟩
  · have d1 : decide ((a0.size : Int) > 1048576) = false := decide_eq_false (by omega)
    have d2 : decide (1048576 < (a0.size : Int)) = false := decide_eq_false (by omega)
    have p1 : (1048576 < (a0.size : Int)) = False := eq_false (by omega)
    obtain ⟨ks, hks⟩ := (spec_wordDfa a0 (by omega)).rounds
    obtain ⟨ki, hki⟩ := (impl_wordDfa a0 (by omega)).rounds
    obtain ⟨m1, m2, m3⟩ := wdOf_len a0
    generalize wdOf a0 = mm at hks hki m1 m2 m3
    obtain ⟨ma, mn⟩ := mm
    dsimp only at m1 m2 m3 hks hki
    generalize word a0 = ok at hks hki
    have qe := (Pl.sameDfa ma mn ma mn (by omega) (by omega) (fun x hx => by have := m3 x hx; omega)).rounds
    simp only [decide_true, Bool.and_self] at qe
    obtain ⟨keq, hkeq⟩ := qe
    have HKEq := Aside0.mk hkeq
    have HKS := Aside0.mk hks
    have HKI := Aside0.mk hki
    have HM := Aside0.mk (show ma.length ≤ 40 ∧ mn.length ≤ 40 ∧ ∀ r ∈ mn, r.length = 3 from ⟨m1, m2, m3⟩)
    clear hkeq hks hki m1 m2 m3
    have kqra : ((mkK mn (1 + (ma.length : Int))) < 0) = False := eq_false (by have := (mkK_bound mn (1 + (ma.length : Int)) (fun x hx => by have := HM.out.2.2 x hx; omega)).1; omega)
    have kqrb : decide ((mkK mn (1 + (ma.length : Int))) < 0) = false := decide_eq_false (by have := (mkK_bound mn (1 + (ma.length : Int)) (fun x hx => by have := HM.out.2.2 x hx; omega)).1; omega)
    have okb : (ok != ok) = false := by cases ok <;> rfl
    clear hbig hz0
    go_wp2_with (first
      | ((with_reducible refine gate_callee (f := 21) rfl ?_); refine goesL_ (some 16) rfl rfl Try.func21 (by kernel_rfl) rfl #[.string a0] rfl (by (try simp only [List.map_toArray, List.map_cons, List.map_nil]); first | done | rfl) ?_; (with_reducible refine (spec_WordDfa.calls ks a0 ma mn ok _ HKS.out).mono ?_); rintro e w2 ⟨b0_, b1_, rfl, hf0, hf1, hb⟩; have DWh : Aside0 (w2.heap.size ≤ w2.heap.size) := ⟨Nat.le_refl _⟩; have DW_n := Aside0.mk (Dv.fresh (base := w.heap.size) HB_.out.size hf0 hf1); have HB__n := Aside0.mk (below_then HB_.out HB_.out.size hb); clear HB_; have HB_ := HB__n; clear HB__n; have DW := DW_n; clear DW_n; clear hf0 hf1 hb; obtain ⟨DWA, DWc, DWB, DWd, e0, e1, hs0, hs1⟩ := DW.out.slices; subst e0; subst e1; have DWs := Aside0.mk hs0; have DWt := Aside0.mk hs1; clear hs0 hs1; have p_DW_BDW := Aside0.mk DWh.out; have BDW_n := Aside0.mk (blk_new w2 (Obj.cells #[.slice DWA ma.length DWc, .slice DWB mn.length DWd] 27)); have HB__n := Aside0.mk (below_alloc HB_.out (Obj.cells #[.slice DWA ma.length DWc, .slice DWB mn.length DWd] 27)); have DW_n := Aside0.mk (DW.out.below (below_alloc (Below.refl _ _) (Obj.cells #[.slice DWA ma.length DWc, .slice DWB mn.length DWd] 27))); have DWh := Aside0.mk (Nat.le_trans DWh.out (below_alloc (Below.refl _ _) (Obj.cells #[.slice DWA ma.length DWc, .slice DWB mn.length DWd] 27)).size); clear HB_ DW; have HB_ := HB__n; have DW := DW_n; clear HB__n DW_n; have BDW := BDW_n; clear BDW_n; have hz_BDW_0 : World.cell? (w2.alloc (Obj.cells #[.slice DWA ma.length DWc, .slice DWB mn.length DWd] 27)) ⟨w2.heap.size, 0, none⟩ = some (.slice DWA ma.length DWc) := (blk_cell BDW.out 0).trans rfl; have hz_BDW_1 : World.cell? (w2.alloc (Obj.cells #[.slice DWA ma.length DWc, .slice DWB mn.length DWd] 27)) ⟨w2.heap.size, 1, none⟩ = some (.slice DWB mn.length DWd) := (blk_cell BDW.out 1).trans rfl; refine ⟨_, rfl, ?_⟩)
      | ((with_reducible refine gate_callee (f := 22) rfl ?_); refine goesL_ (some 21) rfl rfl Try.func22 (by kernel_rfl) rfl #[.string a0] rfl (by (try simp only [List.map_toArray, List.map_cons, List.map_nil]); first | done | rfl) ?_; (with_reducible refine (impl_WordDfa.calls ki a0 ma mn ok _ HKI.out).mono ?_); rintro e w3 ⟨b0_, b1_, rfl, hf0, hf1, hb⟩; (try clear hz_BDW_0); (try clear hz_BDW_1); have p_DW_DG := Aside0.mk DWh.out; have p_BDW_DG := Aside0.mk (blk_lt BDW.out); have DGh : Aside0 (w3.heap.size ≤ w3.heap.size) := ⟨Nat.le_refl _⟩; have DG_n := Aside0.mk (Dv.fresh (base := w.heap.size) HB_.out.size hf0 hf1); have HB__n := Aside0.mk (below_then HB_.out HB_.out.size hb); have BDW_n := Aside0.mk ((hb.block _ (blk_lt BDW.out)).trans BDW.out); have DW_n := Aside0.mk (DW.out.below hb); have DWh := Aside0.mk (Nat.le_trans DWh.out hb.size); clear HB_ BDW DW; have HB_ := HB__n; have BDW := BDW_n; have DW := DW_n; clear HB__n BDW_n DW_n; have DG := DG_n; clear DG_n; clear hf0 hf1 hb; obtain ⟨DGA, DGc, DGB, DGd, e0, e1, hs0, hs1⟩ := DG.out.slices; subst e0; subst e1; have DGs := Aside0.mk hs0; have DGt := Aside0.mk hs1; clear hs0 hs1; have p_DW_BDG := Aside0.mk DWh.out; have p_DG_BDG := Aside0.mk DGh.out; have BDG_n := Aside0.mk (blk_new w3 (Obj.cells #[.slice DGA ma.length DGc, .slice DGB mn.length DGd] 27)); have HB__n := Aside0.mk (below_alloc HB_.out (Obj.cells #[.slice DGA ma.length DGc, .slice DGB mn.length DGd] 27)); have BDW_n := Aside0.mk (blk_alloc BDW.out (Obj.cells #[.slice DGA ma.length DGc, .slice DGB mn.length DGd] 27)); have DW_n := Aside0.mk (DW.out.below (below_alloc (Below.refl _ _) (Obj.cells #[.slice DGA ma.length DGc, .slice DGB mn.length DGd] 27))); have DG_n := Aside0.mk (DG.out.below (below_alloc (Below.refl _ _) (Obj.cells #[.slice DGA ma.length DGc, .slice DGB mn.length DGd] 27))); have DWh := Aside0.mk (Nat.le_trans DWh.out (below_alloc (Below.refl _ _) (Obj.cells #[.slice DGA ma.length DGc, .slice DGB mn.length DGd] 27)).size); have DGh := Aside0.mk (Nat.le_trans DGh.out (below_alloc (Below.refl _ _) (Obj.cells #[.slice DGA ma.length DGc, .slice DGB mn.length DGd] 27)).size); clear HB_ BDW DW DG; have HB_ := HB__n; have BDW := BDW_n; have DW := DW_n; have DG := DG_n; clear HB__n BDW_n DW_n DG_n; have BDG := BDG_n; clear BDG_n; have hz_BDW_0 : World.cell? (w3.alloc (Obj.cells #[.slice DGA ma.length DGc, .slice DGB mn.length DGd] 27)) ⟨w2.heap.size, 0, none⟩ = some (.slice DWA ma.length DWc) := (blk_cell BDW.out 0).trans rfl; have hz_BDW_1 : World.cell? (w3.alloc (Obj.cells #[.slice DGA ma.length DGc, .slice DGB mn.length DGd] 27)) ⟨w2.heap.size, 1, none⟩ = some (.slice DWB mn.length DWd) := (blk_cell BDW.out 1).trans rfl; have hz_BDG_0 : World.cell? (w3.alloc (Obj.cells #[.slice DGA ma.length DGc, .slice DGB mn.length DGd] 27)) ⟨w3.heap.size, 0, none⟩ = some (.slice DGA ma.length DGc) := (blk_cell BDG.out 0).trans rfl; have hz_BDG_1 : World.cell? (w3.alloc (Obj.cells #[.slice DGA ma.length DGc, .slice DGB mn.length DGd] 27)) ⟨w3.heap.size, 1, none⟩ = some (.slice DGB mn.length DGd) := (blk_cell BDG.out 1).trans rfl; refine ⟨_, rfl, ?_⟩)
      | ((with_reducible refine gate_callee (f := 16) rfl ?_); refine goesL_ (some 26) rfl rfl Try.func16 (by kernel_rfl) rfl #[.agg #[.slice DGA ma.length DGc, .slice DGB mn.length DGd], .agg #[.slice DWA ma.length DWc, .slice DWB mn.length DWd]] rfl (by (try simp only [List.map_toArray, List.map_cons, List.map_nil]); first | done | rfl) ?_; (with_reducible refine (laws_eqDfa.calls keq _ _ ma _ _ mn _ _ ma _ _ mn true _ ?s1 DGs.out ?s2 DGt.out ?s3 DWs.out ?s4 DWt.out HKEq.out).mono ?_); (case s1 => exact DG.out.c0); (case s2 => exact DG.out.c1); (case s3 => exact DW.out.c0); (case s4 => exact DW.out.c1); rintro e w4 ⟨rfl, hb⟩; (try clear hz_BDW_0); (try clear hz_BDW_1); (try clear hz_BDG_0); (try clear hz_BDG_1); have HB__n := Aside0.mk (below_then HB_.out HB_.out.size hb); have BDW_n := Aside0.mk ((hb.block _ (blk_lt BDW.out)).trans BDW.out); have BDG_n := Aside0.mk ((hb.block _ (blk_lt BDG.out)).trans BDG.out); have DW_n := Aside0.mk (DW.out.below hb); have DG_n := Aside0.mk (DG.out.below hb); have DWh := Aside0.mk (Nat.le_trans DWh.out hb.size); have DGh := Aside0.mk (Nat.le_trans DGh.out hb.size); clear HB_ BDW BDG DW DG; have HB_ := HB__n; have BDW := BDW_n; have BDG := BDG_n; have DW := DW_n; have DG := DG_n; clear HB__n BDW_n BDG_n DW_n DG_n; clear hb; have hz_BDW_0 : World.cell? w4 ⟨w2.heap.size, 0, none⟩ = some (.slice DWA ma.length DWc) := (blk_cell BDW.out 0).trans rfl; have hz_BDW_1 : World.cell? w4 ⟨w2.heap.size, 1, none⟩ = some (.slice DWB mn.length DWd) := (blk_cell BDW.out 1).trans rfl; have hz_BDG_0 : World.cell? w4 ⟨w3.heap.size, 0, none⟩ = some (.slice DGA ma.length DGc) := (blk_cell BDG.out 0).trans rfl; have hz_BDG_1 : World.cell? w4 ⟨w3.heap.size, 1, none⟩ = some (.slice DGB mn.length DGd) := (blk_cell BDG.out 1).trans rfl; refine ⟨_, rfl, ?_⟩)
      | ((with_reducible refine gate_callee (f := 17) rfl ?_); refine goesL_ (some 35) rfl rfl Try.func17 (by kernel_rfl) rfl #[.agg #[.slice DGA ma.length DGc, .slice DGB mn.length DGd], .int .i64 1] rfl (by (try simp only [List.map_toArray, List.map_cons, List.map_nil]); first | done | rfl) ?_; (with_reducible refine (markDv (w0 := w) 1 HB_.out DG.out ?s1 ?s2 ?s3 ?s4).mono ?_); (case s1 => exact by have := HM.out; omega); (case s2 => exact by have := HM.out; omega); (case s3 => exact fun x hx => by have := HM.out.2.2 x hx; omega); (case s4 => exact by omega); rintro e w5 ⟨rfl, hd, hb, hk⟩; (try clear hz_BDW_0); (try clear hz_BDW_1); (try clear hz_BDG_0); (try clear hz_BDG_1); have HB__n := Aside0.mk hb; have DG_n := Aside0.mk hd; have BDW_n := Aside0.mk (blk_kept BDW.out hk (by have := p_BDW_DG.out; omega)); have BDG_n := Aside0.mk (blk_kept BDG.out hk (by have := p_DG_BDG.out; omega)); have DW_n := Aside0.mk (DW.out.kept hk (fun k h1 h2 => by have := p_DW_DG.out; omega)); have DWh := Aside0.mk (Nat.le_trans DWh.out hk.1); have DGh := Aside0.mk (Nat.le_trans DGh.out hk.1); clear HB_ BDW BDG DW DG; have HB_ := HB__n; have BDW := BDW_n; have BDG := BDG_n; have DW := DW_n; have DG := DG_n; clear HB__n BDW_n BDG_n DW_n DG_n; clear hd hb hk; have hz_BDW_0 : World.cell? w5 ⟨w2.heap.size, 0, none⟩ = some (.slice DWA ma.length DWc) := (blk_cell BDW.out 0).trans rfl; have hz_BDW_1 : World.cell? w5 ⟨w2.heap.size, 1, none⟩ = some (.slice DWB mn.length DWd) := (blk_cell BDW.out 1).trans rfl; have hz_BDG_0 : World.cell? w5 ⟨w3.heap.size, 0, none⟩ = some (.slice DGA ma.length DGc) := (blk_cell BDG.out 0).trans rfl; have hz_BDG_1 : World.cell? w5 ⟨w3.heap.size, 1, none⟩ = some (.slice DGB mn.length DGd) := (blk_cell BDG.out 1).trans rfl; refine ⟨_, rfl, ?_⟩)
      | ((with_reducible refine gate_callee (f := 18) rfl ?_); refine goesL_ (some 38) rfl rfl Try.func18 (by kernel_rfl) rfl #[.agg #[.slice DGA ma.length DGc, .slice DGB mn.length DGd], .int .i64 1] rfl (by (try simp only [List.map_toArray, List.map_cons, List.map_nil]); first | done | rfl) ?_; (with_reducible refine (heldDv DG.out ?s1 ?s2 ?s3).mono ?_); (case s1 => exact by have := HM.out; omega); (case s2 => exact by have := HM.out; omega); (case s3 => exact fun x hx => by have := HM.out.2.2 x hx; omega); rintro e w6 ⟨rfl, hb⟩; (try clear hz_BDW_0); (try clear hz_BDW_1); (try clear hz_BDG_0); (try clear hz_BDG_1); have HB__n := Aside0.mk (below_then HB_.out HB_.out.size hb); have BDW_n := Aside0.mk ((hb.block _ (blk_lt BDW.out)).trans BDW.out); have BDG_n := Aside0.mk ((hb.block _ (blk_lt BDG.out)).trans BDG.out); have DW_n := Aside0.mk (DW.out.below hb); have DG_n := Aside0.mk (DG.out.below hb); have DWh := Aside0.mk (Nat.le_trans DWh.out hb.size); have DGh := Aside0.mk (Nat.le_trans DGh.out hb.size); clear HB_ BDW BDG DW DG; have HB_ := HB__n; have BDW := BDW_n; have BDG := BDG_n; have DW := DW_n; have DG := DG_n; clear HB__n BDW_n BDG_n DW_n DG_n; clear hb; have hz_BDW_0 : World.cell? w6 ⟨w2.heap.size, 0, none⟩ = some (.slice DWA ma.length DWc) := (blk_cell BDW.out 0).trans rfl; have hz_BDW_1 : World.cell? w6 ⟨w2.heap.size, 1, none⟩ = some (.slice DWB mn.length DWd) := (blk_cell BDW.out 1).trans rfl; have hz_BDG_0 : World.cell? w6 ⟨w3.heap.size, 0, none⟩ = some (.slice DGA ma.length DGc) := (blk_cell BDG.out 0).trans rfl; have hz_BDG_1 : World.cell? w6 ⟨w3.heap.size, 1, none⟩ = some (.slice DGB mn.length DGd) := (blk_cell BDG.out 1).trans rfl; refine ⟨_, rfl, ?_⟩)
      | ((with_reducible refine gate_callee (f := 22) rfl ?_); refine goesL_ (some 46) rfl rfl Try.func22 (by kernel_rfl) rfl #[.string a0] rfl (by (try simp only [List.map_toArray, List.map_cons, List.map_nil]); first | done | rfl) ?_; (with_reducible refine (impl_WordDfa.calls ki a0 ma mn ok _ HKI.out).mono ?_); rintro e w7 ⟨b0_, b1_, rfl, hf0, hf1, hb⟩; (try clear hz_BDW_0); (try clear hz_BDW_1); (try clear hz_BDG_0); (try clear hz_BDG_1); have p_DW_DH := Aside0.mk DWh.out; have p_DG_DH := Aside0.mk DGh.out; have p_BDW_DH := Aside0.mk (blk_lt BDW.out); have p_BDG_DH := Aside0.mk (blk_lt BDG.out); have DHh : Aside0 (w7.heap.size ≤ w7.heap.size) := ⟨Nat.le_refl _⟩; have DH_n := Aside0.mk (Dv.fresh (base := w.heap.size) HB_.out.size hf0 hf1); have HB__n := Aside0.mk (below_then HB_.out HB_.out.size hb); have BDW_n := Aside0.mk ((hb.block _ (blk_lt BDW.out)).trans BDW.out); have BDG_n := Aside0.mk ((hb.block _ (blk_lt BDG.out)).trans BDG.out); have DW_n := Aside0.mk (DW.out.below hb); have DG_n := Aside0.mk (DG.out.below hb); have DWh := Aside0.mk (Nat.le_trans DWh.out hb.size); have DGh := Aside0.mk (Nat.le_trans DGh.out hb.size); clear HB_ BDW BDG DW DG; have HB_ := HB__n; have BDW := BDW_n; have BDG := BDG_n; have DW := DW_n; have DG := DG_n; clear HB__n BDW_n BDG_n DW_n DG_n; have DH := DH_n; clear DH_n; clear hf0 hf1 hb; obtain ⟨DHA, DHc, DHB, DHd, e0, e1, hs0, hs1⟩ := DH.out.slices; subst e0; subst e1; have DHs := Aside0.mk hs0; have DHt := Aside0.mk hs1; clear hs0 hs1; have p_DW_BDH := Aside0.mk DWh.out; have p_DG_BDH := Aside0.mk DGh.out; have p_DH_BDH := Aside0.mk DHh.out; have BDH_n := Aside0.mk (blk_new w7 (Obj.cells #[.slice DHA ma.length DHc, .slice DHB mn.length DHd] 27)); have HB__n := Aside0.mk (below_alloc HB_.out (Obj.cells #[.slice DHA ma.length DHc, .slice DHB mn.length DHd] 27)); have BDW_n := Aside0.mk (blk_alloc BDW.out (Obj.cells #[.slice DHA ma.length DHc, .slice DHB mn.length DHd] 27)); have BDG_n := Aside0.mk (blk_alloc BDG.out (Obj.cells #[.slice DHA ma.length DHc, .slice DHB mn.length DHd] 27)); have DW_n := Aside0.mk (DW.out.below (below_alloc (Below.refl _ _) (Obj.cells #[.slice DHA ma.length DHc, .slice DHB mn.length DHd] 27))); have DG_n := Aside0.mk (DG.out.below (below_alloc (Below.refl _ _) (Obj.cells #[.slice DHA ma.length DHc, .slice DHB mn.length DHd] 27))); have DH_n := Aside0.mk (DH.out.below (below_alloc (Below.refl _ _) (Obj.cells #[.slice DHA ma.length DHc, .slice DHB mn.length DHd] 27))); have DWh := Aside0.mk (Nat.le_trans DWh.out (below_alloc (Below.refl _ _) (Obj.cells #[.slice DHA ma.length DHc, .slice DHB mn.length DHd] 27)).size); have DGh := Aside0.mk (Nat.le_trans DGh.out (below_alloc (Below.refl _ _) (Obj.cells #[.slice DHA ma.length DHc, .slice DHB mn.length DHd] 27)).size); have DHh := Aside0.mk (Nat.le_trans DHh.out (below_alloc (Below.refl _ _) (Obj.cells #[.slice DHA ma.length DHc, .slice DHB mn.length DHd] 27)).size); clear HB_ BDW BDG DW DG DH; have HB_ := HB__n; have BDW := BDW_n; have BDG := BDG_n; have DW := DW_n; have DG := DG_n; have DH := DH_n; clear HB__n BDW_n BDG_n DW_n DG_n DH_n; have BDH := BDH_n; clear BDH_n; have hz_BDW_0 : World.cell? (w7.alloc (Obj.cells #[.slice DHA ma.length DHc, .slice DHB mn.length DHd] 27)) ⟨w2.heap.size, 0, none⟩ = some (.slice DWA ma.length DWc) := (blk_cell BDW.out 0).trans rfl; have hz_BDW_1 : World.cell? (w7.alloc (Obj.cells #[.slice DHA ma.length DHc, .slice DHB mn.length DHd] 27)) ⟨w2.heap.size, 1, none⟩ = some (.slice DWB mn.length DWd) := (blk_cell BDW.out 1).trans rfl; have hz_BDG_0 : World.cell? (w7.alloc (Obj.cells #[.slice DHA ma.length DHc, .slice DHB mn.length DHd] 27)) ⟨w3.heap.size, 0, none⟩ = some (.slice DGA ma.length DGc) := (blk_cell BDG.out 0).trans rfl; have hz_BDG_1 : World.cell? (w7.alloc (Obj.cells #[.slice DHA ma.length DHc, .slice DHB mn.length DHd] 27)) ⟨w3.heap.size, 1, none⟩ = some (.slice DGB mn.length DGd) := (blk_cell BDG.out 1).trans rfl; have hz_BDH_0 : World.cell? (w7.alloc (Obj.cells #[.slice DHA ma.length DHc, .slice DHB mn.length DHd] 27)) ⟨w7.heap.size, 0, none⟩ = some (.slice DHA ma.length DHc) := (blk_cell BDH.out 0).trans rfl; have hz_BDH_1 : World.cell? (w7.alloc (Obj.cells #[.slice DHA ma.length DHc, .slice DHB mn.length DHd] 27)) ⟨w7.heap.size, 1, none⟩ = some (.slice DHB mn.length DHd) := (blk_cell BDH.out 1).trans rfl; refine ⟨_, rfl, ?_⟩)
      | ((with_reducible refine gate_callee (f := 16) rfl ?_); refine goesL_ (some 51) rfl rfl Try.func16 (by kernel_rfl) rfl #[.agg #[.slice DHA ma.length DHc, .slice DHB mn.length DHd], .agg #[.slice DWA ma.length DWc, .slice DWB mn.length DWd]] rfl (by (try simp only [List.map_toArray, List.map_cons, List.map_nil]); first | done | rfl) ?_; (with_reducible refine (laws_eqDfa.calls keq _ _ ma _ _ mn _ _ ma _ _ mn true _ ?s1 DHs.out ?s2 DHt.out ?s3 DWs.out ?s4 DWt.out HKEq.out).mono ?_); (case s1 => exact DH.out.c0); (case s2 => exact DH.out.c1); (case s3 => exact DW.out.c0); (case s4 => exact DW.out.c1); rintro e w8 ⟨rfl, hb⟩; (try clear hz_BDW_0); (try clear hz_BDW_1); (try clear hz_BDG_0); (try clear hz_BDG_1); (try clear hz_BDH_0); (try clear hz_BDH_1); have HB__n := Aside0.mk (below_then HB_.out HB_.out.size hb); have BDW_n := Aside0.mk ((hb.block _ (blk_lt BDW.out)).trans BDW.out); have BDG_n := Aside0.mk ((hb.block _ (blk_lt BDG.out)).trans BDG.out); have BDH_n := Aside0.mk ((hb.block _ (blk_lt BDH.out)).trans BDH.out); have DW_n := Aside0.mk (DW.out.below hb); have DG_n := Aside0.mk (DG.out.below hb); have DH_n := Aside0.mk (DH.out.below hb); have DWh := Aside0.mk (Nat.le_trans DWh.out hb.size); have DGh := Aside0.mk (Nat.le_trans DGh.out hb.size); have DHh := Aside0.mk (Nat.le_trans DHh.out hb.size); clear HB_ BDW BDG BDH DW DG DH; have HB_ := HB__n; have BDW := BDW_n; have BDG := BDG_n; have BDH := BDH_n; have DW := DW_n; have DG := DG_n; have DH := DH_n; clear HB__n BDW_n BDG_n BDH_n DW_n DG_n DH_n; clear hb; have hz_BDW_0 : World.cell? w8 ⟨w2.heap.size, 0, none⟩ = some (.slice DWA ma.length DWc) := (blk_cell BDW.out 0).trans rfl; have hz_BDW_1 : World.cell? w8 ⟨w2.heap.size, 1, none⟩ = some (.slice DWB mn.length DWd) := (blk_cell BDW.out 1).trans rfl; have hz_BDG_0 : World.cell? w8 ⟨w3.heap.size, 0, none⟩ = some (.slice DGA ma.length DGc) := (blk_cell BDG.out 0).trans rfl; have hz_BDG_1 : World.cell? w8 ⟨w3.heap.size, 1, none⟩ = some (.slice DGB mn.length DGd) := (blk_cell BDG.out 1).trans rfl; have hz_BDH_0 : World.cell? w8 ⟨w7.heap.size, 0, none⟩ = some (.slice DHA ma.length DHc) := (blk_cell BDH.out 0).trans rfl; have hz_BDH_1 : World.cell? w8 ⟨w7.heap.size, 1, none⟩ = some (.slice DHB mn.length DHd) := (blk_cell BDH.out 1).trans rfl; refine ⟨_, rfl, ?_⟩)
      | ((with_reducible refine gate_callee (f := 18) rfl ?_); refine goesL_ (some 60) rfl rfl Try.func18 (by kernel_rfl) rfl #[.agg #[.slice DGA ma.length DGc, .slice DGB mn.length DGd], .int .i64 1] rfl (by (try simp only [List.map_toArray, List.map_cons, List.map_nil]); first | done | rfl) ?_; (with_reducible refine (heldDv DG.out ?s1 ?s2 ?s3).mono ?_); (case s1 => exact by have := HM.out; omega); (case s2 => exact by have := HM.out; omega); (case s3 => exact fun x hx => by have := HM.out.2.2 x hx; omega); rintro e w9 ⟨rfl, hb⟩; (try clear hz_BDW_0); (try clear hz_BDW_1); (try clear hz_BDG_0); (try clear hz_BDG_1); (try clear hz_BDH_0); (try clear hz_BDH_1); have HB__n := Aside0.mk (below_then HB_.out HB_.out.size hb); have BDW_n := Aside0.mk ((hb.block _ (blk_lt BDW.out)).trans BDW.out); have BDG_n := Aside0.mk ((hb.block _ (blk_lt BDG.out)).trans BDG.out); have BDH_n := Aside0.mk ((hb.block _ (blk_lt BDH.out)).trans BDH.out); have DW_n := Aside0.mk (DW.out.below hb); have DG_n := Aside0.mk (DG.out.below hb); have DH_n := Aside0.mk (DH.out.below hb); have DWh := Aside0.mk (Nat.le_trans DWh.out hb.size); have DGh := Aside0.mk (Nat.le_trans DGh.out hb.size); have DHh := Aside0.mk (Nat.le_trans DHh.out hb.size); clear HB_ BDW BDG BDH DW DG DH; have HB_ := HB__n; have BDW := BDW_n; have BDG := BDG_n; have BDH := BDH_n; have DW := DW_n; have DG := DG_n; have DH := DH_n; clear HB__n BDW_n BDG_n BDH_n DW_n DG_n DH_n; clear hb; have hz_BDW_0 : World.cell? w9 ⟨w2.heap.size, 0, none⟩ = some (.slice DWA ma.length DWc) := (blk_cell BDW.out 0).trans rfl; have hz_BDW_1 : World.cell? w9 ⟨w2.heap.size, 1, none⟩ = some (.slice DWB mn.length DWd) := (blk_cell BDW.out 1).trans rfl; have hz_BDG_0 : World.cell? w9 ⟨w3.heap.size, 0, none⟩ = some (.slice DGA ma.length DGc) := (blk_cell BDG.out 0).trans rfl; have hz_BDG_1 : World.cell? w9 ⟨w3.heap.size, 1, none⟩ = some (.slice DGB mn.length DGd) := (blk_cell BDG.out 1).trans rfl; have hz_BDH_0 : World.cell? w9 ⟨w7.heap.size, 0, none⟩ = some (.slice DHA ma.length DHc) := (blk_cell BDH.out 0).trans rfl; have hz_BDH_1 : World.cell? w9 ⟨w7.heap.size, 1, none⟩ = some (.slice DHB mn.length DHd) := (blk_cell BDH.out 1).trans rfl; refine ⟨_, rfl, ?_⟩))
    go_ret
    exact ⟨rfl, HB_.out⟩
end Go.Proofs.Ytogamkblkoobkaa.Wk
end
section
namespace Go.Proofs.Ytogamkblkoobkaa.P
open Go.RowKit Go.Proofs.YtogamkblkoobkaaW.PrintWords Go.Proofs.YtogamkblkoobkaaW.PrintLast Go.Proofs.YtogamkblkoobkaaW.PrintMore
attribute [local go_sem] max2_int min2_int max_two min_two max_three min_three max_four min_four
set_option linter.unusedVariables false
set_option linter.unusedSimpArgs false
def laws_FnExactWordDfa.f (a0 : ByteArray) : Option Bool := if a0.size ≤ 140737488351232 then some true else none
theorem laws_FnExactWordDfa.calls (a0 : ByteArray) (r : Bool) (w : World)  (h : laws_FnExactWordDfa.f a0 = some r) (hR : r = true) :
    Calls Try.prog 5 #[.string a0] w fun e w' => e = .returned (.bool r) ∧ Below w.heap.size w w' := by
  unfold laws_FnExactWordDfa.f at h
  subst hR
  split at h
  · rename_i hp
    exact Wk.lawWf a0 w  hp
  · cases h
end Go.Proofs.Ytogamkblkoobkaa.P
end
section
namespace Go.Proofs.Ytogamkblkoobkaa.St
open Go.Proofs.Ytogamkblkoobkaa Rk
def FnExactWordDfa : Prop := ∀ (a0 : ByteArray), a0.size ≤ 140737488351232 → P.laws_FnExactWordDfa.f a0 = some true
end Go.Proofs.Ytogamkblkoobkaa.St
end
section
namespace Go.Proofs.Ytogamkblkoobkaa.Pl
open Go.RowKit Go.Proofs.Ytogamkblkoobkaa Go.Proofs.Ytogamkblkoobkaa.P Go.Proofs.YtogamkblkoobkaaW.PrintWords Go.Proofs.YtogamkblkoobkaaW.PrintLast Go.Proofs.YtogamkblkoobkaaW.PrintMore Rk
set_option linter.unusedVariables false
theorem pureFnExactWordDfa : St.FnExactWordDfa := by
  intro a ha
  unfold laws_FnExactWordDfa.f
  rw [if_pos ha]
end Go.Proofs.Ytogamkblkoobkaa.Pl
end
section
namespace Go.Proofs.Ytogamkblkoobkaa.Pure
theorem FnExactWordDfa : St.FnExactWordDfa := Pl.pureFnExactWordDfa
end Go.Proofs.Ytogamkblkoobkaa.Pure
end
section
namespace Go.Proofs.Ytogamkblkoobkaa.fnExactWordDfa
open Go.ChangeShapes Go.WideShapes Go.ChangeAt Go.RowKit Go.Proofs.Ytogamkblkoobkaa.Rk Go.Proofs.YtogamkblkoobkaaW.PrintWords
open Go.ChangeMaps (open_string shut_string)
set_option linter.unusedVariables false
theorem own : ownKnob Try.prog.godebug = none := by kernel_rfl
theorem laidOut : laidOutB Try.prog = true := by kernel_rfl
set_option maxRecDepth 100000 in
theorem lifted (os : Os) (started : os.Started) (H : Type) (enc : TypeId × Value → H) :
    ReturnsInHanded {} Try.checked os 5 .any (Rows.fnExactWordDfaSpec.pre6 enc Try.prog Try.f5 Rows.fnExactWordDfaRow.domain false) (Rows.fnExactWordDfaSpec.post enc Try.prog Try.f5 false true false false) := by
  refine returnsInHanded_of_change_sized (C := Try.checked) own started (by kernel_rfl) Try.func5
    (ChangeSpec.witness6 (enc := enc) (C := Try.checked) false ⟨#[], #[.string ByteArray.empty], []⟩ 8 (by kernel_rfl) (by kernel_rfl) (by kernel_rfl) (by kernel_rfl)) ?_
  intro W base args ds gs before hval0 hW hcnd hsz0 _
  have hsz : (DataW.weightsEach Try.prog (Try.f5.params.toList ++ Rows.fnExactWordDfaSpec.plain.varTypes Try.prog) (ds ++ gs)).all (· ≤ reachBytes) = true := hsz0
  have hval : ∀ (j : Nat) t v, Try.f5.params[j]? = some t → args[j]? = some v → Value.okWide Try.prog W .any base t v := hval0
  have hW' := hW
  obtain ⟨p, q, hA0, hV, rfl, hfz, hnd⟩ := hW
  have hA : DataW.TrodAll enc Try.prog W 0 (fun _ => true) true Try.f5.params.toList args.toList ds p := hA0
  rw [Try.params5] at hA hval hsz
  obtain ⟨v0, vs0, d0, ds0, p0, q0, hargs, rfl, rfl, h0, r0⟩ := trodAll_cons hA
  obtain ⟨rfl, rfl, rfl⟩ := trodAll_nil r0
  obtain rfl : args = #[v0] := by cases args; simp_all
  obtain ⟨rfl, rfl⟩ := trodVars_none hV
  obtain ⟨a0, rfl, rfl, rfl, y0⟩ := open_string Try.underlying9 (hval 0 9 v0 rfl rfl) h0
  have w0 : a0.size ≤ 140737488351232 := by
    have z := sized_string hsz (j := 0) (t := 9) rfl rfl
    rw [Array.length_toList] at z
    exact z
  clear hA0 hval0 hsz0 hsz
  have hk := Pure.FnExactWordDfa a0 w0
  refine (P.laws_FnExactWordDfa.calls a0 true W  hk rfl).mono fun e W' hh => ?_
  obtain ⟨he, bel0⟩ := hh
  have bel : Below W.heap.size W W' := bel0
  subst he
  exact ⟨_, rfl, _, _, _, [], _, [], hW', trodAll_mk1 (shut_bool Try.underlying4 _), (trodAll_cons_mk (shut_string Try.underlying9 y0) trodAll_mk0), rfl, bel.frame _, fun h => by cases h⟩
theorem over : Rows.fnExactWordDfaRow.holds Try.pinned (OpenSpec.ofChange Rows.fnExactWordDfaSpec) :=
  OpenClaim.holds_of_wide 5 Try.f5 rfl rfl rfl rfl rfl rfl rfl ⟨rfl, rfl, rfl, rfl, rfl⟩ rfl rfl rfl rfl rfl (by kernel_rfl) Try.func5 (by kernel_rfl)
    (of_decide_eq_true (by kernel_rfl)) (by unfold Func.isWrapper; first | (rw [if_pos (by decide +kernel)]; kernel_rfl) | (rw [if_neg (by decide +kernel)]; exact ⟨rfl, rfl⟩))
    (fun os started H enc _ => lifted os started H enc)
theorem proved : Rows.FnExactWordDfaSaid := over
#print axioms proved
end Go.Proofs.Ytogamkblkoobkaa.fnExactWordDfa
namespace Go.Proofs.Ytogamkblkoobkaa
theorem fnExactWordDfa_holds : Rows.FnExactWordDfaSaid := fnExactWordDfa.proved
end Go.Proofs.Ytogamkblkoobkaa
end
