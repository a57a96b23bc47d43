/- The walk of ShortestWord. No condition. -/
import Derived.Test.YtoknogcefajfiaaFwW
import Derived.Test.YtoknogcefajfiaaIsV

namespace Go.Proofs.Ytoknogcefajfiaa.Bf
open Go.Proofs.Ytoknogcefajfiaa.Pl
theorem nodup_le {α : Type} [DecidableEq α] : ∀ (s t : List α), s.Nodup → (∀ x ∈ s, x ∈ t) → s.length ≤ t.length
  | [], t, _, _ => Nat.zero_le _
  | a :: s, t, hn, hs => by
    rw [List.nodup_cons] at hn
    have hm := hs a List.mem_cons_self
    have h1 := nodup_le s (t.erase a) hn.2 (fun x hx => by
      have hne : x ≠ a := by rintro rfl; exact hn.1 hx
      exact (List.mem_erase_of_ne hne).mpr (hs x (List.mem_cons_of_mem _ hx)))
    rw [List.length_erase_of_mem hm] at h1
    have := List.length_pos_of_mem hm
    simp only [List.length_cons]
    omega
theorem card_range (n : Nat) (s : List Int) (hn : s.Nodup) (h : ∀ x ∈ s, 0 ≤ x ∧ x < n) : s.length ≤ n := by
  have := nodup_le s ((List.range n).map fun (i : Nat) => (i : Int)) hn (fun x hx => by
    have := h x hx
    exact List.mem_map.mpr ⟨x.toNat, List.mem_range.mpr (by omega), by omega⟩)
  simpa using this
end Go.Proofs.Ytoknogcefajfiaa.Bf
namespace Go.Proofs.Ytoknogcefajfiaa.Wk
open Go.RowKit Go.Shelf Go.Proofs.Ytoknogcefajfiaa.P Go.Proofs.Ytoknogcefajfiaa.Pl Go.Proofs.Ytoknogcefajfiaa.Mp Go.Proofs.Ytoknogcefajfiaa.Bf Go.Proofs.YtoknogcefajfiaaW.PrintWords Go.Proofs.YtoknogcefajfiaaW.PrintLast Go.Proofs.YtoknogcefajfiaaW.PrintMore
set_option linter.unusedVariables false
set_option linter.unusedSimpArgs false

set_option maxHeartbeats 2000000 in
theorem shGood (A0 : Option Addr) (c0 : Nat) (l0 : List Bool) (B : Nat) (x : Int) (W : World) (hx0 : 0 ≤ x) (hx1 : x < l0.length) (hb0 : W.cell? ⟨B, 0, none⟩ = some (.slice A0 l0.length c0)) (hr0 : Kd.C Kd.bool W A0 l0.length l0) :
    Calls Try.prog 72 (#[.int .i64 x] ++ #[.pointer (some ⟨B, 0, none⟩)]) W fun e W' => e = .returned (.bool (rdOf false l0 x)) ∧ Below W.heap.size W W' := by
  obtain ⟨ad, rfl, hx⟩ := Kd.at_bool hr0 x hx0 hx1
  generalize rdOf false l0 x = y at hx ⊢
  have p1 := eq_true hx0
  have q1 := eq_true hx1
  clear hx0 hx1 hr0
  go_enter Try.func72, Try.ntmps72
  go_wp2
  go_ret
  exact ⟨rfl, Below.refl _ _⟩
set_option maxHeartbeats 2000000 in
theorem shNext (A1 : Option Addr) (c1 : Nat) (l1 : List (List Int)) (B : Nat) (x : Int) (j : Nat) (W : World) (hx0 : 0 ≤ x) (hx1 : x < l1.length) (hj : j < (l1.getD x.toNat []).length) (hb1 : W.cell? ⟨B, 1, none⟩ = some (.slice A1 l1.length c1)) (hr1 : Kd.C (Kd.slice 3 (Kd.int .i64)) W A1 l1.length l1) :
    Calls Try.prog 73 (#[.int .i64 x, .int .i64 j] ++ #[.pointer (some ⟨B, 0, none⟩)]) W fun e W' => e = .returned (.int .i64 (rd (l1.getD x.toNat []) j)) ∧ Below W.heap.size W W' := by
  obtain ⟨ad, rfl, hcell⟩ := cellsRows hr1 (by omega)
  obtain ⟨Aj, cj, hx, hrow⟩ := hcell x.toNat (by omega)
  generalize l1.getD x.toNat [] = row at hj hx hrow ⊢
  obtain ⟨ad2, rfl, hy⟩ := Kd.at_int hrow (j : Int) (by omega) (by omega)
  generalize rd row j = y at hy ⊢
  rw [Int.toNat_natCast] at hy
  have p1 := eq_true hx0
  have q1 := eq_true hx1
  have p2 : ((0 : Int) ≤ (j : Int)) = True := eq_true (by omega)
  have q2 : ((j : Int) < (row.length : Int)) = True := eq_true (by omega)
  clear hx0 hx1 hr1 hcell hrow hj
  go_enter Try.func73, Try.ntmps73
  go_wp2
  go_ret
  exact ⟨rfl, Below.refl _ _⟩
def nxD (l1 : List (List Int)) (x : Int) (j : Nat) : Int := rd (l1.getD x.toNat []) j
/-- What ShortestWord answers. -/
def shW (l0 : List Bool) (l1 : List (List Int)) : ByteArray × Bool := if validD l0 l1 = true then bfs (fun x => rdOf false l0 x) (nxD l1) 42 ([0], [(⟨#[]⟩ : ByteArray)]) 0 else (⟨#[]⟩, false)
theorem badState_eq2 (n q : Int) : badState n q = !(decide (0 ≤ q) && decide (q ≤ n - 1)) := by
  unfold badState
  cases decide (0 ≤ q) <;> cases decide (q ≤ n - 1) <;> rfl
theorem validD_facts {l0 : List Bool} {l1 : List (List Int)} (h : validD l0 l1 = true) : 1 ≤ l0.length ∧ l0.length ≤ 40 ∧ l1.length = l0.length ∧ ∀ r ∈ l1, r.length = 3 ∧ ∀ q ∈ r, 0 ≤ q ∧ q < l0.length := by
  simp only [validD, Bool.and_eq_true, decide_eq_true_eq, Bool.not_eq_true', List.any_eq_false] at h
  obtain ⟨⟨⟨h1, h2⟩, h3⟩, h4⟩ := h
  refine ⟨h1, h2, h3, fun r hr => ?_⟩
  have := h4 r hr
  simp only [badRow, Bool.or_eq_true, decide_eq_true_eq, not_or, List.any_eq_true, not_exists, not_and] at this
  refine ⟨by omega, fun x hx => ?_⟩
  have hb := this.2 x hx
  rw [badState_eq2] at hb
  simp at hb
  omega
set_option maxHeartbeats 2000000 in
theorem shCalls (A0 : Option Addr) (c0 : Nat) (l0 : List Bool) (A1 : Option Addr) (c1 : Nat) (l1 : List (List Int)) (w : World) (hr0 : Kd.C Kd.bool w A0 l0.length l0) (hr1 : Kd.C (Kd.slice 3 (Kd.int .i64)) w A1 l1.length l1) :
    Calls Try.prog 29 #[.agg #[.slice A0 l0.length c0, .slice A1 l1.length c1]] w fun e w' => e = .returned (.tuple #[.string (shW l0 l1).1, .bool (shW l0 l1).2]) ∧ Below w.heap.size w w' := by
  have hu := Try.underlying28
  have HV := Aside0.mk (fun W (hb : Below w.heap.size w W) => validCalls A0 c0 l0 A1 c1 l1 W (Kd.C_below hr0 hb) (Kd.C_below hr1 hb))
  cases hv : validD l0 l1 with
  | false =>
    rw [hv] at HV
    have e : shW l0 l1 = (⟨#[]⟩, false) := by unfold shW; rw [hv]; rfl
    rw [e]
    clear hv e hr0 hr1
    go_enter Try.func29, Try.ntmps29
    go_wp2_with (go_at_call 18; refine (HV.out _ (by exact below_alloc (Below.refl _ _) _)).mono ?_; rintro e w' ⟨rfl, hb⟩; have HB := Aside0.mk hb; clear hb)
    go_ret2
    exact ⟨rfl, below_then (below_alloc (Below.refl _ _) _) (by simp) HB.out⟩
  | true =>
    obtain ⟨n1, n2, n3, n4⟩ := validD_facts hv
    rw [hv] at HV
    have e : shW l0 l1 = bfs (fun x => rdOf false l0 x) (nxD l1) 42 ([0], [(⟨#[]⟩ : ByteArray)]) 0 := by unfold shW; rw [hv]; rfl
    rw [e]
    have hrow : ∀ x : Int, 0 ≤ x ∧ x < l0.length → (l1.getD x.toNat []).length = 3 ∧ ∀ q ∈ l1.getD x.toNat [], 0 ≤ q ∧ q < l0.length := fun x hx => by
      have hlt : x.toNat < l1.length := by omega
      rw [List.getD_eq_getElem?_getD, List.getElem?_eq_getElem hlt]
      exact n4 _ (List.getElem_mem hlt)
    have HFW := Aside0.mk (fun (B : Nat) (W : World) (hb : Below w.heap.size w W) (h0 : W.cell? ⟨B, 0, none⟩ = some (.slice A0 l0.length c0)) (h1 : W.cell? ⟨B, 1, none⟩ = some (.slice A1 l1.length c1)) =>
      firstWord_int (dom := fun x => 0 ≤ x ∧ x < (l0.length : Int)) 40 (by omega) (fun x => rdOf false l0 x) (nxD l1) 0 72 73 #[.pointer (some ⟨B, 0, none⟩)] #[.pointer (some ⟨B, 0, none⟩)] (enters_of Try.func72 (by kernel_rfl) rfl) (enters_of Try.func73 (by kernel_rfl) rfl) W
        ⟨by omega, by omega⟩ (fun x j hx hj => by
          obtain ⟨r1, r2⟩ := hrow x hx
          unfold nxD
          rw [rd_get _ _ (by omega)]
          exact r2 _ (List.getElem_mem _)) (fun x hx => by simp [wfI, Lit.wf, IntKind.min, IntKind.max, IntKind.signed, IntKind.bits]; omega) (fun s hn hs => Nat.le_trans (card_range l0.length s hn hs) n2)
        (fun x hx W' hb' => shGood A0 c0 l0 B x W' hx.1 hx.2 (pw_cell_below hb' h0) (Kd.C_below (Kd.C_below hr0 hb) hb'))
        (fun x j hx hj W' hb' => shNext A1 c1 l1 B x j W' hx.1 (by omega) (by rw [(hrow x hx).1]; exact hj) (pw_cell_below hb' h1) (Kd.C_below (Kd.C_below hr1 hb) hb')))
    clear hv e hr0 hr1 n1 n2 n3 n4 hrow
    go_enter Try.func29, Try.ntmps29
    go_wp2_with (first | (go_at_call 18; refine (HV.out _ (by exact below_alloc (Below.refl _ _) _)).mono ?_; rintro e w' ⟨rfl, hb⟩; have HB := Aside0.mk hb; clear hb) | (go_at_call 71; refine (HFW.out w.heap.size _ ?q1 ?q2 ?q3).mono ?_; (case q1 => exact below_then (below_alloc (Below.refl _ _) _) (by simp) HB.out); (case q2 => exact pw_cell_below HB.out (by simp)); (case q3 => exact pw_cell_below HB.out (by simp)); rintro e w' ⟨rfl, hb⟩; have HB2 := Aside0.mk hb; clear hb))
    go_ret2
    exact ⟨rfl, below_then (below_then (below_alloc (Below.refl _ _) _) (by simp) HB.out) (Nat.le_trans (by simp) HB.out.size) HB2.out⟩
end Go.Proofs.Ytoknogcefajfiaa.Wk
