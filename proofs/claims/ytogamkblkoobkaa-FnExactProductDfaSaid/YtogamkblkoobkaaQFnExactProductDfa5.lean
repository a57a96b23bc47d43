/- Texts of the proof of FnExactProductDfa, put together. No condition. -/
import Derived.Test.YtogamkblkoobkaaQFnExactProductDfa4
section
namespace Go.Proofs.Ytogamkblkoobkaa.Mn
open Go.RowKit Go.Proofs.Ytogamkblkoobkaa Go.Proofs.Ytogamkblkoobkaa.Lg Go.Proofs.Ytogamkblkoobkaa.Pl Go.Proofs.Ytogamkblkoobkaa.Mp Go.Proofs.Ytogamkblkoobkaa.Bf Go.Proofs.YtogamkblkoobkaaW.PrintWords Go.Proofs.YtogamkblkoobkaaW.PrintLast Go.Proofs.YtogamkblkoobkaaW.PrintMore
set_option linter.unusedVariables false
set_option linter.unusedSimpArgs false
set_option linter.unusedSectionVars false
theorem set_mid {α : Type} (A : List α) (z y : α) (B : List α) : (A ++ z :: B).set A.length y = A ++ [y] ++ B := by
  induction A with
  | nil => rfl
  | cons a A ih => simp
def rowOf (l1 : List (List Int)) (q : Int) : List Int := l1.getD q.toNat []
def ordF (l1 : List (List Int)) : Nat → List Int → Nat → List Int
  | 0, os, _ => os
  | d + 1, os, i => if h : i < os.length then ordF l1 d (adds os (rowOf l1 os[i])) (i + 1) else os
def cls0 (l0 : List Bool) (q : Int) : Int := if rdOf false l0 q = true then 1 else 0
def pl (os : List Int) (x : Int) : Int := (idx os x).getD 0
def pk (cl os row : List Int) (m j : Nat) : Int := if m < j then rd cl (pl os (rd row (m : Int))) else 0
abbrev K4 := Int × Int × Int × Int
def keyAt (l1 : List (List Int)) (os cl : List Int) (i : Nat) : K4 :=
  (cl.getD i 0, rd cl (pl os (rd (rowOf l1 (os.getD i 0)) 0)), rd cl (pl os (rd (rowOf l1 (os.getD i 0)) 1)), rd cl (pl os (rd (rowOf l1 (os.getD i 0)) 2)))
def keys (l1 : List (List Int)) (os cl : List Int) : List K4 := (List.range os.length).map (keyAt l1 os cl)
def nmF {α : Type} [DecidableEq α] : List α → List α → List Int → List α × List Int
  | [], ks, out => (ks, out)
  | k :: r, ks, out => nmF r (add ks k) (out ++ [((add ks k).idxOf k : Int)])
def refF (l1 : List (List Int)) (os : List Int) : Nat → List Int → Nat → List Int
  | 0, cl, _ => cl
  | d + 1, cl, c => if (nmF (keys l1 os cl) [] []).1.length = c then (nmF (keys l1 os cl) [] []).2 else refF l1 os d (nmF (keys l1 os cl) [] []).2 (nmF (keys l1 os cl) [] []).1.length
def ldF : List Int → Nat → List Int → List Int → List Int × List Int
  | [], _, ns, ls => (ns, ls)
  | c :: r, i, ns, ls => if c ∈ ns then ldF r (i + 1) ns ls else ldF r (i + 1) (ns ++ [c]) (ls ++ [(i : Int)])
def outRow (l1 : List (List Int)) (os cl ns : List Int) (i : Int) : List Int := (rowOf l1 (rd os i)).map fun x => (idx ns (rd cl (pl os x))).getD 0
def outD (l0 : List Bool) (l1 : List (List Int)) (os cl : List Int) : List Bool × List (List Int) :=
  ((ldF cl 0 [] []).2.map (fun i => rdOf false l0 (rd os i)), (ldF cl 0 [] []).2.map (outRow l1 os cl (ldF cl 0 [] []).1))
def minT (l0 : List Bool) (l1 : List (List Int)) (os : List Int) : List Bool × List (List Int) := outD l0 l1 os (refF l1 os (os.length + 2) (os.map (cls0 l0)) 0)
def minD (l0 : List Bool) (l1 : List (List Int)) (st : Int) : List Bool × List (List Int) := minT l0 l1 (ordF l1 (l0.length + 2) [st] 0)
theorem idx_nil {α : Type} [DecidableEq α] : (fun _ => none : α → Option Int) = idx [] := by
  funext x
  simp [idx]
theorem idx_val {α : Type} [DecidableEq α] {s : List α} {x : α} (h : x ∈ s) : ((s.idxOf x : Nat) : Int) = (idx s x).getD 0 := by
  unfold idx
  rw [if_pos h]
  rfl
theorem pl_bound {os : List Int} (h : 1 ≤ os.length) (x : Int) : 0 ≤ pl os x ∧ pl os x < (os.length : Int) := by
  unfold pl idx
  split
  · rename_i hm
    have := List.idxOf_lt_length_of_mem hm
    simp only [Option.getD_some]
    omega
  · simp only [Option.getD_none]
    omega
section
variable {α β : Type} [DecidableEq α] [DecidableEq β]
theorem idxOf_pre {L R : List α} (h : L <+: R) {x : α} (hx : x ∈ L) : R.idxOf x = L.idxOf x := by
  obtain ⟨t, rfl⟩ := h
  rw [List.idxOf_append, if_pos hx]
theorem dd_map_le (f : α → β) (l : List α) : (dd (l.map f)).length ≤ (dd l).length := by
  have := nodup_len (dd (l.map f)) ((dd l).map f) (dd_nodup _) (fun x hx => by
    obtain ⟨y, hy, rfl⟩ := List.mem_map.mp (mem_dd.mp hx)
    exact List.mem_map_of_mem (mem_dd.mpr hy))
  simpa using this
theorem dd_len_le (l : List α) : (dd l).length ≤ l.length := nodup_len _ _ (dd_nodup l) (fun x hx => mem_dd.mp hx)
end
theorem nmF_eq {α : Type} [DecidableEq α] : ∀ (K ks : List α) (out : List Int), nmF K ks out = (adds ks K, out ++ K.map (fun k => ((adds ks K).idxOf k : Int)))
  | [], ks, out => by simp [nmF, adds_nil]
  | k :: r, ks, out => by
    rw [nmF, nmF_eq r, adds_cons, List.map_cons]
    have hp := adds_pre r (add ks k)
    rw [idxOf_pre hp (mem_add.mpr (Or.inr rfl))]
    simp
theorem nm_eq {α : Type} [DecidableEq α] (K : List α) : nmF K [] [] = (dd K, K.map (fun k => ((dd K).idxOf k : Int))) := by rw [nmF_eq]; simp [dd]
theorem nm_bound {α : Type} [DecidableEq α] (K : List α) : ∀ x ∈ (nmF K [] []).2, 0 ≤ x ∧ x < ((dd K).length : Int) := by
  rw [nm_eq]
  intro x hx
  obtain ⟨y, hy, rfl⟩ := List.mem_map.mp hx
  have := List.idxOf_lt_length_of_mem (mem_dd.mpr hy)
  omega
theorem keys_len (l1 : List (List Int)) (os cl : List Int) : (keys l1 os cl).length = os.length := by simp [keys]
theorem keys_more {l1 : List (List Int)} {os cl : List Int} (h : cl.length = os.length) : (dd cl).length ≤ (dd (keys l1 os cl)).length := by
  have e : (keys l1 os cl).map (fun k => k.1) = cl := by
    apply List.ext_getElem
    · simp [keys, h]
    · intro i h1 h2
      simp [keys, keyAt, List.getD_eq_getElem?_getD, List.getElem?_eq_getElem h2]
  have := dd_map_le (fun k : K4 => k.1) (keys l1 os cl)
  rw [e] at this
  exact this
theorem nm_classes {α : Type} [DecidableEq α] [Inhabited α] (K : List α) : (dd (nmF K [] []).2).length = (dd K).length := by
  rw [nm_eq]
  dsimp only
  refine Nat.le_antisymm (dd_map_le _ K) ?_
  have e : (K.map (fun k => ((dd K).idxOf k : Int))).map (fun z : Int => (dd K)[z.toNat]?) = K.map some := by
    rw [List.map_map]
    apply List.map_congr_left
    intro k hk
    have hm : k ∈ dd K := mem_dd.mpr hk
    have hl := List.idxOf_lt_length_of_mem hm
    simp only [Function.comp, Int.toNat_natCast]
    rw [List.getElem?_eq_getElem hl, List.getElem_idxOf]
  have h1 := dd_map_le (fun z : Int => (dd K)[z.toNat]?) (K.map (fun k => ((dd K).idxOf k : Int)))
  rw [e] at h1
  have h2 : (dd K).length ≤ (dd (K.map some)).length := by
    have := dd_map_le (fun o : Option α => o.getD default) (K.map some)
    rw [List.map_map, show ((fun o : Option α => o.getD default) ∘ some) = id from rfl, List.map_id] at this
    exact this
  omega
end Go.Proofs.Ytogamkblkoobkaa.Mn
end
