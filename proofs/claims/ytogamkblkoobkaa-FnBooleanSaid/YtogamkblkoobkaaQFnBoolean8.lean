/- Texts of the proof of FnBoolean, put together. No condition. -/
import Derived.Test.YtogamkblkoobkaaQFnBoolean2
import Derived.Shelf.Abstract
import Derived.Lib.Walk
import Derived.Test.YtogamkblkoobkaaQFnBoolean7
import Derived.Test.YtogamkblkoobkaaQFnBoolean4
section
namespace Go.Proofs.Ytogamkblkoobkaa.Wk
open Go.RowKit Go.Shelf Go.Proofs.Ytogamkblkoobkaa.P Go.Proofs.Ytogamkblkoobkaa.Pl Go.Proofs.Ytogamkblkoobkaa.Mp Go.Proofs.Ytogamkblkoobkaa.Bf Go.Proofs.Ytogamkblkoobkaa.Mn Go.Proofs.Ytogamkblkoobkaa.Lg Go.Proofs.Ytogamkblkoobkaa.Can Go.Proofs.YtogamkblkoobkaaW.PrintWords Go.Proofs.YtogamkblkoobkaaW.PrintLast Go.Proofs.YtogamkblkoobkaaW.PrintMore
set_option linter.unusedVariables false
set_option linter.unusedSimpArgs false
structure MemQ (w w' : World) (okl okr : Nat → Prop) (vl : Value) (g6 g9 : Nat) (L : List Int) (A : List Bool) (M : List (List Int)) (u0 u1 b0 b1 : Value) : Prop where
  list : Kd.R (Kd.int .i64) 3 w' w.heap.size okl vl L
  acc : Kd.R Kd.bool 4 w' w.heap.size (fun _ => True) u0 A
  rows : Kd.S (Kd.slice 3 (Kd.int .i64)) 67 w' w.heap.size okr u1 M
  box : w'.heap[g9]? = some (.cells #[b0, b1] 27 (0, 0))
  res : w'.heap[g6]? = some (.cells #[.slice none 0 0, .slice none 0 0] 27 (0, 0))
  bel : Below w.heap.size w w'
section
variable {w w' w2 : World} {okl okr : Nat → Prop} {vl : Value} {g6 g9 : Nat} {L : List Int} {A : List Bool} {M : List (List Int)} {u0 u1 b0 b1 : Value}
theorem MemQ.below (h : MemQ w w' okl okr vl g6 g9 L A M u0 u1 b0 b1) (hb : Below w'.heap.size w' w2) : MemQ w w2 okl okr vl g6 g9 L A M u0 u1 b0 b1 :=
  ⟨Kd.R_below h.list hb, Kd.R_below h.acc hb, Kd.S_below h.rows hb, blk_below h.box hb, blk_below h.res hb, below_then h.bel h.bel.size hb⟩
theorem MemQ.listed {vn : Value} {Ln : List Int} (h : MemQ w w' okl (fun k => okr k ∧ some k ≠ vl.ownBlock) vl g6 g9 L A M u0 u1 b0 b1) (hg : w'.grownBy w2 vl.ownBlock) (hat : vn.ownBlock = vl.ownBlock ∨ ∃ b, vn.ownBlock = some b ∧ w'.heap.size ≤ b) (ho : Kd.R (Kd.int .i64) 3 w2 w.heap.size okl vn Ln) (hb : Below w.heap.size w w2) : MemQ w w2 okl (fun k => okr k ∧ some k ≠ vn.ownBlock) vn g6 g9 Ln A M u0 u1 b0 b1 :=
  ⟨ho, Kd.R_over' h.acc (Kd.R_typed h.list) (by decide) hg, Kd.S_after h.rows hg hat, blk_grown h.box hg (Kd.R_ne h.list h.box (by decide)), blk_grown h.res hg (Kd.R_ne h.list h.res (by decide)), hb⟩
theorem MemQ.rowed {v v1 : Value} {xs : List Int} {base : Nat} {okw : Nat → Prop} (h : MemQ w w' (fun k => okl k ∧ some k ≠ v.ownBlock) okr vl g6 g9 L A M u0 u1 b0 b1) (hr : Kd.R (Kd.int .i64) 3 w' base okw v xs) (hg : w'.grownBy w2 v.ownBlock) (hat : v1.ownBlock = v.ownBlock ∨ ∃ b, v1.ownBlock = some b ∧ w'.heap.size ≤ b) (hok : ∀ k, okr k → some k ≠ v.ownBlock) (hb : Below w.heap.size w w2) : MemQ w w2 (fun k => okl k ∧ some k ≠ v1.ownBlock) okr vl g6 g9 L A M u0 u1 b0 b1 :=
  ⟨Kd.R_after h.list hg hat, Kd.R_over' h.acc (Kd.R_typed hr) (by decide) hg, Kd.S_grown h.rows hg hok, blk_grown h.box hg (Kd.R_ne hr h.box (by decide)), blk_grown h.res hg (Kd.R_ne hr h.res (by decide)), hb⟩
theorem MemQ.accd {vn : Value} {An : List Bool} (h : MemQ w w' okl okr vl g6 g9 L A M u0 u1 b0 b1) (hg : w'.grownBy w2 u0.ownBlock) (ho : Kd.R Kd.bool 4 w2 w.heap.size (fun _ => True) vn An) (hb : Below w.heap.size w w2) : MemQ w w2 okl okr vl g6 g9 L An M vn u1 b0 b1 :=
  ⟨Kd.R_over' h.list (Kd.R_typed h.acc) (by decide) hg, ho, Kd.S_over' h.rows (Kd.R_typed h.acc) (by decide) hg, blk_grown h.box hg (Kd.R_ne h.acc h.box (by decide)), blk_grown h.res hg (Kd.R_ne h.acc h.res (by decide)), hb⟩
theorem MemQ.rowsd {vn : Value} {Mn : List (List Int)} {okn : Nat → Prop} (h : MemQ w w' okl okr vl g6 g9 L A M u0 u1 b0 b1) (hg : w'.grownBy w2 u1.ownBlock) (ho : Kd.S (Kd.slice 3 (Kd.int .i64)) 67 w2 w.heap.size okn vn Mn) (hb : Below w.heap.size w w2) : MemQ w w2 okl okn vl g6 g9 L A Mn u0 vn b0 b1 :=
  ⟨Kd.R_over' h.list (Kd.S_typed h.rows) (by decide) hg, Kd.R_over' h.acc (Kd.S_typed h.rows) (by decide) hg, ho, blk_grown h.box hg (Kd.S_ne h.rows h.box (by decide)), blk_grown h.res hg (Kd.S_ne h.rows h.res (by decide)), hb⟩
theorem MemQ.opened {v : Value} (h : MemQ w w' (fun _ => True) (fun k => True ∧ some k ≠ vl.ownBlock) vl g6 g9 L A M u0 u1 b0 b1) (ho : Kd.R (Kd.int .i64) 3 w2 w'.heap.size (fun _ => True) v []) (hb : Below w'.heap.size w' w2) :
    MemQ w w2 (fun k => True ∧ some k ≠ v.ownBlock) (fun k => k < w'.heap.size ∧ some k ≠ vl.ownBlock) vl g6 g9 L A M u0 u1 b0 b1 ∧ Kd.R (Kd.int .i64) 3 w2 w.heap.size (fun k => True ∧ some k ≠ vl.ownBlock) v [] :=
  ⟨⟨Kd.R_below (Kd.R_mono (Kd.R_bound h.list) (fun k hk => ⟨trivial, fun e => by have h1 := Kd.R_base ho k e.symm; have h2 := hk.2.2.1; omega⟩)) hb, Kd.R_below h.acc hb, Kd.S_below (Kd.S_mono (Kd.S_bound h.rows) (fun k hk => ⟨hk.2.2.1, hk.1.2⟩)) hb, blk_below h.box hb, blk_below h.res hb, below_then h.bel h.bel.size hb⟩,
    Kd.R_lower (Kd.R_mono (Kd.R_bound ho) (fun k hk => ⟨trivial, fun e => by have h1 := Kd.R_lt h.list k e.symm; have h2 := hk.2.1; omega⟩)) h.bel.size⟩
theorem MemQ.put {v : Value} (h : MemQ w w' okl okr vl g6 g9 L A M u0 u1 b0 b1) (hn : g6 ≠ g9) (hl : w.heap.size ≤ g9) (j : Nat) {c0 c1 : Value} (hbx : (w'.setCell ⟨g9, j, none⟩ v).heap[g9]? = some (.cells #[c0, c1] 27 (0, 0))) : MemQ w (w'.setCell ⟨g9, j, none⟩ v) okl okr vl g6 g9 L A M u0 u1 c0 c1 :=
  ⟨Kd.R_set h.list h.box (by decide) j v, Kd.R_set h.acc h.box (by decide) j v, Kd.S_set h.rows h.box (by decide) j v, hbx, blk_grown h.res (gb_set (gb_refl _ _) j v) (fun e => hn (Option.some.inj e)), below_set h.bel hl⟩
end
def T15z : Bool × List (List Nat × List Nat) := (true, [([], []), ([0], [0]), ([], []), ([1, 2], [1, 2]), ([3], [3]), ([], []), ([4, 5], [4, 5]), ([6], [6]), ([], []), ([7, 8], [7, 8]), ([], []), ([10], [10]), ([], []), ([11, 12], [11, 12]), ([13], [13]), ([], []), ([14, 15], [14, 15]), ([16], [16]), ([9, 17], [9, 17]), ([18, 0, 1, 2, 3, 4, 5, 6, 7, 8, 9, 10, 11, 12, 13, 14, 15, 16, 17, 18], [18])])
def B15z : List Nat := [0, 1, 0, 7, 15, 0, 63, 127, 0, 511, 0, 1024, 0, 7168, 15360, 0, 64512, 130048, 262143, 524287]
theorem tab15z : rtab .any (opsOf Try.f19 15) = T15z := by kernel_rfl
theorem bits15z : waitsOk T15z.2 B15z = true := by kernel_rfl
set_option maxHeartbeats 8000000 in
set_option maxRecDepth 100000 in
theorem spdCalls (A0 : Option Addr) (c0 : Nat) (l0 : List Bool) (A1 : Option Addr) (c1 : Nat) (l1 : List (List Int)) (B0 : Option Addr) (d0 : Nat) (m0 : List Bool) (B1 : Option Addr) (d1 : Nat) (m1 : List (List Int)) (kind : Int) (w : World) (hr0 : Kd.C Kd.bool w A0 l0.length l0) (hc0 : l0.length ≤ c0) (hr1 : Kd.C (Kd.slice 3 (Kd.int .i64)) w A1 l1.length l1) (hc1 : l1.length ≤ c1) (hs0 : Kd.C Kd.bool w B0 m0.length m0) (hd0 : m0.length ≤ d0) (hs1 : Kd.C (Kd.slice 3 (Kd.int .i64)) w B1 m1.length m1) (hd1 : m1.length ≤ d1)
    (z0 : l0.length ≤ 1048576) (z1 : l1.length ≤ 1048576) (z2 : m0.length ≤ 1048576) (z3 : m1.length ≤ 1048576) :
    Calls Try.prog 19 #[.agg #[.slice A0 l0.length c0, .slice A1 l1.length c1], .agg #[.slice B0 m0.length d0, .slice B1 m1.length d1], .int .i64 kind] w fun e w' => ∃ v0 v1 : Value, e = .returned (.tuple #[.agg #[v0, v1], .bool (pdR l0 l1 m0 m1 kind).2.2]) ∧ Kd.R Kd.bool 4 w' w.heap.size (fun _ => True) v0 (pdR l0 l1 m0 m1 kind).1 ∧ Kd.S (Kd.slice 3 (Kd.int .i64)) 67 w' w.heap.size (fun _ => True) v1 (pdR l0 l1 m0 m1 kind).2.1 ∧ Below w.heap.size w w' := by
  have hu := Try.underlying27
  obtain ⟨ka, hka⟩ := (spec_valid l0 l1 z0 z1).rounds
  obtain ⟨kb, hkb⟩ := (spec_valid m0 m1 z2 z3).rounds
  have HV := am_ (fun W (hb : Below w.heap.size w W) => spec_IsValidDfa.calls ka A0 c0 l0 A1 c1 l1 _ W (Kd.C_below hr0 hb) hc0 (Kd.C_below hr1 hb) hc1 hka)
  have HV2 := am_ (fun W (hb : Below w.heap.size w W) => spec_IsValidDfa.calls kb B0 d0 m0 B1 d1 m1 _ W (Kd.C_below hs0 hb) hd0 (Kd.C_below hs1 hb) hd1 hkb)
  obtain ⟨OA, hOA⟩ : ∃ o : Obj, o = Obj.cells #[.slice A0 l0.length c0, .slice A1 l1.length c1] 27 := ⟨_, rfl⟩
  obtain ⟨OB, hOB⟩ : ∃ o : Obj, o = Obj.cells #[.slice B0 m0.length d0, .slice B1 m1.length d1] 27 := ⟨_, rfl⟩
  obtain ⟨OD, hOD⟩ : ∃ o : Obj, o = Obj.cells #[.slice none 0 0, .slice none 0 0] 27 := ⟨_, rfl⟩
  have HB0 : Aside0 (Below w.heap.size w (((w.alloc OA).alloc OB).alloc OD)) := ⟨below_alloc (below_alloc (below_alloc (Below.refl w.heap.size w) _) _) _⟩
  have KA0 : Aside0 (World.cell? (((w.alloc OA).alloc OB).alloc OD) ⟨w.heap.size, 0, none⟩ = some (.slice A0 l0.length c0)) := ⟨by rw [hOA]; exact pw_cell_below (below_alloc (below_alloc (Below.refl _ _) _) _) (by simp)⟩
  have KA1 : Aside0 (World.cell? (((w.alloc OA).alloc OB).alloc OD) ⟨w.heap.size, 1, none⟩ = some (.slice A1 l1.length c1)) := ⟨by rw [hOA]; exact pw_cell_below (below_alloc (below_alloc (Below.refl _ _) _) _) (by simp)⟩
  have KB0 : Aside0 (World.cell? (((w.alloc OA).alloc OB).alloc OD) ⟨w.heap.size + 1, 0, none⟩ = some (.slice B0 m0.length d0)) := ⟨by rw [hOB]; exact pw_cell_below (below_alloc (Below.refl _ _) _) (by simp)⟩
  have KB1 : Aside0 (World.cell? (((w.alloc OA).alloc OB).alloc OD) ⟨w.heap.size + 1, 1, none⟩ = some (.slice B1 m1.length d1)) := ⟨by rw [hOB]; exact pw_cell_below (below_alloc (Below.refl _ _) _) (by simp)⟩
  have HR8 : Aside0 ((((w.alloc OA).alloc OB).alloc OD).heap[w.heap.size + 1 + 1]? = some (.cells #[.slice none 0 0, .slice none 0 0] 27 (0, 0))) := ⟨by
    have h0 := blk_new ((w.alloc OA).alloc OB) OD
    rw [hOD] at h0 ⊢
    simpa using h0⟩
  have HGE : Aside0 (w.heap.size ≤ w.heap.size + 1 + 1) := ⟨by omega⟩
  cases hv : validD l0 l1 with
  | false =>
    rw [hv] at HV
    have e : pdR l0 l1 m0 m1 kind = ([], [], false) := by unfold pdR; rw [hv]; rw [if_neg]; rintro ⟨⟨h, _⟩, _⟩; cases h
    rw [e]
    subst hOA hOB hOD
    clear hv e hr0 hr1 hs0 hs1 HV2 hka hkb hc0 hc1 hd0 hd1 z0 z1 z2 z3
    go_enter Try.func19, Try.ntmps19
    go_wp2_with (go_at_call 35; (with_reducible refine (HV.out _ ?hq0).mono ?_); (case hq0 => exact HB0.out); rintro e w1 ⟨rfl, hb⟩; have HB := bt_ HB0 hb; have HR9 := am_ (blk_below HR8.out hb); have hcz0 : World.cell? w1 ⟨w.heap.size + 1 + 1, 0, none⟩ = some (.slice none 0 0) := (blk_cell HR9.out 0).trans rfl; have hcz1 : World.cell? w1 ⟨w.heap.size + 1 + 1, 1, none⟩ = some (.slice none 0 0) := (blk_cell HR9.out 1).trans rfl; have hfz0 := blk_frozen HR9.out 0; have hfz1 := blk_frozen HR9.out 1; clear hb)
    have HT4 : Aside0 (((w1.setCell ⟨w.heap.size + 1 + 1, 0, none⟩ (.slice none 0 0)).setCell ⟨w.heap.size + 1 + 1, 1, none⟩ (.slice none 0 0)).heap[w.heap.size + 1 + 1]? = some (.cells #[.slice none 0 0, .slice none 0 0] 27 (0, 0))) := ⟨blk_put (blk_put (cs' := #[.slice none 0 0, .slice none 0 0]) HR9.out 0 _ rfl) 1 _ rfl⟩
    refine bodyPost_ret (results_ct rfl _ _ (w.heap.size + 1 + 1) 27 #[.slice none 0 0, .slice none 0 0] (0, 0) _ rfl HT4.out Try.underlying27 rfl (by kernel_rfl)) rfl ?_
    exact ⟨_, _, rfl, Kd.R_nil _ _ _ _ _, Kd.S_nil _ _ _ _ _, below_set (below_set HB.out HGE.out) HGE.out⟩
  | true =>
    rw [hv] at HV
    cases hv2 : validD m0 m1 with
    | false =>
      rw [hv2] at HV2
      have e : pdR l0 l1 m0 m1 kind = ([], [], false) := by unfold pdR; rw [hv2]; rw [if_neg]; rintro ⟨⟨_, h⟩, _⟩; cases h
      rw [e]
      subst hOA hOB hOD
      clear hv hv2 e hr0 hr1 hs0 hs1 hka hkb hc0 hc1 hd0 hd1 z0 z1 z2 z3
      go_enter Try.func19, Try.ntmps19
      go_wp2_with (first | (go_at_call 35; (with_reducible refine (HV.out _ ?hq0).mono ?_); (case hq0 => exact HB0.out); rintro e w1 ⟨rfl, hb⟩; have HB1 := bt_ HB0 hb; have HR1 := am_ (blk_below HR8.out hb); have ha0 := am_ (pw_cell_below hb KA0.out); have ha1 := am_ (pw_cell_below hb KA1.out); have hb0 := pw_cell_below hb KB0.out; have hb1 := pw_cell_below hb KB1.out; clear hb) | (go_at_call 35; (with_reducible refine (HV2.out _ ?hq1).mono ?_); (case hq1 => exact HB1.out); rintro e V ⟨rfl, hb⟩; have HB := bt_ HB1 hb; have HR9 := am_ (blk_below HR1.out hb); have hc0 := am_ (pw_cell_below hb ha0.out); have hc1 := am_ (pw_cell_below hb ha1.out); have hc2 := pw_cell_below hb hb0; have hc3 := am_ (pw_cell_below hb hb1); have hcz0 : World.cell? V ⟨w.heap.size + 1 + 1, 0, none⟩ = some (.slice none 0 0) := (blk_cell HR9.out 0).trans rfl; have hcz1 : World.cell? V ⟨w.heap.size + 1 + 1, 1, none⟩ = some (.slice none 0 0) := (blk_cell HR9.out 1).trans rfl; have hfz0 := blk_frozen HR9.out 0; have hfz1 := blk_frozen HR9.out 1; clear hb hb0 hb1))
      have HT4 : Aside0 (((V.setCell ⟨w.heap.size + 1 + 1, 0, none⟩ (.slice none 0 0)).setCell ⟨w.heap.size + 1 + 1, 1, none⟩ (.slice none 0 0)).heap[w.heap.size + 1 + 1]? = some (.cells #[.slice none 0 0, .slice none 0 0] 27 (0, 0))) := ⟨blk_put (blk_put (cs' := #[.slice none 0 0, .slice none 0 0]) HR9.out 0 _ rfl) 1 _ rfl⟩
      refine bodyPost_ret (results_ct rfl _ _ (w.heap.size + 1 + 1) 27 #[.slice none 0 0, .slice none 0 0] (0, 0) _ rfl HT4.out Try.underlying27 rfl (by kernel_rfl)) rfl ?_
      exact ⟨_, _, rfl, Kd.R_nil _ _ _ _ _, Kd.S_nil _ _ _ _ _, below_set (below_set HB.out HGE.out) HGE.out⟩
    | true =>
      rw [hv2] at HV2
      by_cases hkk : kind = 6 ∨ kind = 7
      ·
        obtain ⟨R, hR, hR16⟩ := z_runs hv hv2
        have hfit := z_fit (kind := kind) hv hv2 hkk hR
        rw [← hfit]
        obtain ⟨n1, n2, n3, n4⟩ := validD_facts hv
        obtain ⟨k1, k2, k3, k4⟩ := validD_facts hv2
        have hall := hR.all (z_sc hv hv2) (fun x hx => by rw [List.mem_singleton] at hx; subst hx; exact z_zero hv hv2)
        have hrw : Rows3 (R.map (acZ kind l0 m0)).length (R.map (rowX (nxZ l1 m1 m0.length) R)) := (Auto.rows (x0 := (0 : Int)) ⟨R, hR, rfl, rfl⟩).2
        have hr1l := hR.pre.length_le
        obtain ⟨kf, hkf⟩ := (spec_fit (by rw [List.length_map]; exact hr1l) (by rw [List.length_map]; omega) hrw).rounds
        have HKF := am_ hkf
        generalize fitD (R.map (acZ kind l0 m0)) (R.map (rowX (nxZ l1 m1 m0.length) R)) = fr at HKF ⊢
        obtain ⟨f1, f2, f3⟩ := fr
        have HRUN := am_ hR
        have HALL := am_ hall
        have HR16 := am_ hR16
        have HNX := am_ (fun z hz j hj => z_next hv hv2 (z := z) hz j hj)
        have HPT := am_ (fun z hz => z_parts (na := l0.length) k1 (z := z) hz)
        have HROW := am_ (fun x hx => (fits_valid hv).row x hx)
        have HROW2 := am_ (fun x hx => (fits_valid hv2).row x hx)
        have HSZ := am_ (show l0.length ≤ 40 ∧ m0.length ≤ 40 ∧ 1 ≤ l0.length ∧ 1 ≤ m0.length ∧ l1.length = l0.length ∧ m1.length = m0.length from ⟨n2, k2, n1, k1, n3, k3⟩)
        obtain ⟨a0, e0, _⟩ := Kd.at_bool hr0 0 (by omega) (by omega)
        obtain ⟨a1, e1, _⟩ := cellsRows hr1 (by omega)
        obtain ⟨b0, e2, _⟩ := Kd.at_bool hs0 0 (by omega) (by omega)
        obtain ⟨b1, e3, _⟩ := cellsRows hs1 (by omega)
        subst e0 e1 e2 e3
        have HC0 := am_ hr0
        have HC1 := am_ hr1
        have HD0 := am_ hs0
        have HD1 := am_ hs1
        subst hOA hOB hOD
        clear hv hv2 hfit hR hR16 hall hrw hr1l hkf hr0 hr1 hs0 hs1 n1 n2 n3 n4 k1 k2 k3 k4 hka hkb hc0 hc1 hd0 hd1 z0 z1 z2 z3
        obtain ⟨kd, HKD⟩ : ∃ kd, Aside0 (kd = kind) := ⟨kind, ⟨rfl⟩⟩
        have HKF : Aside0 (spec_l5Fits.f kf (R.map (acZ kd l0 m0)) (R.map (rowX (nxZ l1 m1 m0.length) R)) = some (f1, f2, f3)) := ⟨by rw [HKD.out]; exact HKF.out⟩
        rcases hkk with rfl | rfl
        all_goals
          go_enter Try.func19, Try.ntmps19
          go_wp2_with (first | (go_at_call 35; (with_reducible refine (HV.out _ ?hq0).mono ?_); (case hq0 => exact HB0.out); rintro e w1 ⟨rfl, hb⟩; have HB1 := bt_ HB0 hb; have HR1 := am_ (blk_below HR8.out hb); have ha0 := am_ (pw_cell_below hb KA0.out); have ha1 := am_ (pw_cell_below hb KA1.out); have hb0 := pw_cell_below hb KB0.out; have hb1 := pw_cell_below hb KB1.out; clear hb) | (go_at_call 35; (with_reducible refine (HV2.out _ ?hq1).mono ?_); (case hq1 => exact HB1.out); rintro e V ⟨rfl, hb⟩; have HB := bt_ HB1 hb; have HR9 := am_ (blk_below HR1.out hb); have hc0 := am_ (pw_cell_below hb ha0.out); have hc1 := am_ (pw_cell_below hb ha1.out); have hc2 := pw_cell_below hb hb0; have hc3 := am_ (pw_cell_below hb hb1); have hcz0 : World.cell? V ⟨w.heap.size + 1 + 1, 0, none⟩ = some (.slice none 0 0) := (blk_cell HR9.out 0).trans rfl; have hcz1 : World.cell? V ⟨w.heap.size + 1 + 1, 1, none⟩ = some (.slice none 0 0) := (blk_cell HR9.out 1).trans rfl; have hfz0 := blk_frozen HR9.out 0; have hfz1 := blk_frozen HR9.out 1; clear hb hb0 hb1))
          have hbA := below_alloc (Below.refl V.heap.size V) (Obj.cells #[Value.slice none 0 0, Value.slice none 0 0] 27)
          have hM0 : MemQ V ((V.alloc (Obj.cells #[Value.slice none 0 0, Value.slice none 0 0] 27)).alloc (Obj.cells #[Value.int .i64 0] 3)) (fun _ => True) (fun k => True ∧ some k ≠ (Value.slice (some ⟨V.heap.size + 1, 0, none⟩) 1 1).ownBlock) (.slice (some ⟨V.heap.size + 1, 0, none⟩) 1 1) (w.heap.size + 1 + 1) V.heap.size [0] [] [] (.slice none 0 0) (.slice none 0 0) (.slice none 0 0) (.slice none 0 0) :=
            ⟨by
              have := R_here (okp := fun _ => True) (inner := [.int .i64 0]) (Kd.int .i64) (V.alloc (Obj.cells #[Value.slice none 0 0, Value.slice none 0 0] 27)) V.heap.size 3 (xs := [(0 : Int)]) (Reps.one (show Kd.M (Kd.int .i64) _ _ _ (0 : Int) [.int .i64 0] from rfl) (Reps.none _ _)) (by simp) (by simp)
              simpa using this, Kd.R_nil _ _ _ _ _, Kd.S_nil _ _ _ _ _, blk_alloc (blk_new V _) _, blk_alloc (blk_alloc HR9.out _) _, below_alloc hbA _⟩
          have HMEM := am_ hM0
          have H69 : Aside0 (w.heap.size + 1 + 1 ≠ V.heap.size) := ⟨by have := blk_lt HR9.out; omega⟩
          have HG6 : Aside0 (w.heap.size + 1 + 1 < V.heap.size) := ⟨blk_lt HR9.out⟩
          have hc2 := am_ hc2
          clear hM0 hbA hcz0 hcz1 hfz0 hfz1 HB0 KA0 KA1 KB0 KB1 HR8 HB1 HR1 ha0 ha1 HV HV2
          generalize (V.alloc (Obj.cells #[Value.slice none 0 0, Value.slice none 0 0] 27)).alloc (Obj.cells #[Value.int .i64 0] 3) = ws at HMEM ⊢
          go_loopg [10, 11] (R.length + 2) (fun gg v10 v11 wr => ∃ (L : List Int) (i : Nat) (xa : List Bool) (xy : List (List Int)) (u0 u1 : Value), v11 = .int .i64 (i : Int) ∧ Aside0 (i ≤ L.length) ∧ Aside0 (R.length + 2 ≤ gg + i) ∧ Aside0 (Runs (sc (nxZ l1 m1 m0.length)) L i R) ∧ Aside0 (xa = (R.take i).map (acZ kd l0 m0)) ∧ Aside0 (xy = (R.take i).map (rowX (nxZ l1 m1 m0.length) R)) ∧ Aside0 (MemQ V wr (fun _ => True) (fun k => True ∧ some k ≠ v10.ownBlock) v10 (w.heap.size + 1 + 1) V.heap.size L xa xy u0 u1 u0 u1))
          case atStart => exact ⟨[0], 0, [], [], _, _, rfl, ⟨by simp⟩, ⟨by omega⟩, HRUN, ⟨rfl⟩, ⟨rfl⟩, HMEM⟩
          case round =>
            clear HMEM HRUN
            obtain ⟨L, i, xa, xy, u0, u1, rfl, HI, HG, HRUN, HXA, HXY, HMEM⟩ := hrel
            have hpre := HRUN.out.pre
            have hlr := hpre.length_le
            cases gk with
            | zero => exact absurd HI.out (by have := HG.out; omega)
            | succ g =>
              obtain ⟨A10, c10, e10⟩ := Kd.R_slice HMEM.out.list
              subst e10
              obtain ⟨Aa, ca, ea⟩ := Kd.R_slice HMEM.out.acc
              subst ea
              obtain ⟨Ay, cy, ey⟩ := Kd.S_slice HMEM.out.rows
              subst ey
              by_cases hi : i < L.length
              ·
                have hrun : Runs (sc (nxZ l1 m1 m0.length)) (adds L (sc (nxZ l1 m1 m0.length) L[i])) (i + 1) R := by
                  cases HRUN.out with
                  | stop h => omega
                  | step _ h => exact h
                have hRi : R[i]? = some L[i] := by
                  rw [List.getElem?_eq_getElem (by omega)]
                  exact congrArg some (hpre.getElem hi).symm
                have hLi : L[i]? = some L[i] := List.getElem?_eq_getElem hi
                have hdz := HALL.out _ (hpre.subset (List.getElem_mem hi))
                obtain ⟨aa, ea10, hx10⟩ := Kd.at_int (Kd.R_reads' HMEM.out.list).2.2 (i : Int) (by omega) (by omega)
                subst ea10
                rw [rd_get L i hi, Int.toNat_natCast] at hx10
                generalize L[i] = z at hrun hRi hLi hdz hx10
                obtain ⟨hp, hq⟩ := HPT.out z hdz
                obtain ⟨pp, hpp⟩ : ∃ pp : Int, pp = z / (m0.length : Int) := ⟨_, rfl⟩
                obtain ⟨qq, hqq⟩ : ∃ qq : Int, qq = z % (m0.length : Int) := ⟨_, rfl⟩
                rw [← hpp] at hp
                rw [← hqq] at hq
                have htd : Int.tdiv z (m0.length : Int) = pp := by rw [hpp]; exact Int.tdiv_eq_ediv_of_nonneg hdz.1
                have htm : Int.tmod z (m0.length : Int) = qq := by rw [hqq]; exact Int.tmod_eq_emod_of_nonneg hdz.1
                have ewp : wrap64 pp = pp := w64 (by have := HSZ.out; omega) (by have := HSZ.out; omega)
                have hn0 : ((m0.length : Int) = 0) = False := eq_false (by have := HSZ.out; omega)
                have hn1 : (m0.length = 0) = False := eq_false (by have := HSZ.out; omega)
                have hn2 : (m0 = []) = False := eq_false (fun h => by have := HSZ.out; rw [h] at this; simp at this)
                have hn3 : ((m0.length : Int) == 0) = false := beq_eq_false_iff_ne.mpr (by have := HSZ.out; omega)
                have hn4 : decide ((m0.length : Int) = 0) = false := decide_eq_false (by have := HSZ.out; omega)
                have hn5 : decide (m0.length = 0) = false := decide_eq_false (by have := HSZ.out; omega)
                have p1 : ((0 : Int) ≤ (i : Int)) = True := eq_true (by omega)
                have q1 : ((i : Int) < (L.length : Int)) = True := eq_true (by omega)
                have hb1 : World.cell? wr ⟨w.heap.size + 1, 0, none⟩ = some (.slice (some b0) m0.length d0) := pw_cell_below HMEM.out.bel hc2.out
                have HI3 := am_ hi
                have HLR := am_ hlr
                have HRI := am_ hRi
                have HLI := am_ hLi
                have HDZ := am_ hdz
                have HPP := am_ hpp
                have HQQ := am_ hqq
                have HP := am_ hp
                have HQ := am_ hq
                have HRUN := am_ hrun
                clear hpre hi hlr hRi hLi hdz hpp hqq hp hq hrun HI
                go_wp2_with ((with_reducible refine gate_dst (N := 60) rfl ?_); refine Kd.R_lit (Kd.int .i64) _ 3 ?hg (N := 60) ?hd (xs := ([] : List Int)) (inner := []) (ok := fun _ => True) (okp := fun _ => True) ?hr ?hp (fun _ hk => hk) trivial (Below.refl _ _) (Nat.le_refl _) (by simp) ?_; (case hd => rfl); (case hg => rfl); (case hr => first | (go_simp; done) | (go_simp; rfl)); (case hp => exact (Reps.none _ _)); intro v14 w6 ho hb hg_ hnew_; clear hg_ hnew_; have HMI := am_ (HMEM.out.opened ho hb).1; have HROWI := am_ (HMEM.out.opened ho hb).2; have HOB := am_ (fun k => Kd.R_base ho k); have HSW := am_ hb.size; clear ho hb)
                obtain ⟨W1, rfl⟩ : ∃ wo : World, wo = wr := ⟨_, rfl⟩
                clear HMEM q1 hx10 hb1 htd htm ewp hn0 hn1 hn2 hn3 hn4 hn5
                go_loopg [10, 14, 15] 3 (fun gg v10 v14 v15 wr => ∃ (L : List Int) (row : List Int) (j : Nat), v15 = .int .i64 (j : Int) ∧ Aside0 (j ≤ 3) ∧ Aside0 (3 ≤ gg + j) ∧ Aside0 (Runs (sc (nxZ l1 m1 m0.length)) (adds L (tl (nxZ l1 m1 m0.length) z (3 - j) j)) (i + 1) R) ∧ Aside0 (L[i]? = some z) ∧ Aside0 (row = ((sc (nxZ l1 m1 m0.length) z).take j).map (num R)) ∧ Aside0 (MemQ V wr (fun k => True ∧ some k ≠ v14.ownBlock) (fun k => k < W1.heap.size ∧ some k ≠ v10.ownBlock) v10 (w.heap.size + 1 + 1) V.heap.size L xa xy (.slice Aa xa.length ca) (.slice Ay xy.length cy) (.slice Aa xa.length ca) (.slice Ay xy.length cy)) ∧ Aside0 (Kd.R (Kd.int .i64) 3 wr V.heap.size (fun k => True ∧ some k ≠ v10.ownBlock) v14 row) ∧ Aside0 (∀ k, v14.ownBlock = some k → W1.heap.size ≤ k) ∧ Aside0 (W1.heap.size ≤ wr.heap.size))
                case atStart => exact ⟨L, [], 0, rfl, ⟨by omega⟩, ⟨by omega⟩, HRUN, HLI, ⟨rfl⟩, HMI, HROWI, HOB, HSW⟩
                case round =>
                  clear HMI HROWI HOB HSW HLI HRUN HI3 HLR
                  obtain ⟨L, row, j, rfl, HJ, HGJ, HRUN, HLI, HRW, HM4, HROW4, HOB, HSW4⟩ := hrel
                  obtain ⟨A10, c10, e10⟩ := Kd.R_slice HM4.out.list
                  subst e10
                  obtain ⟨A14, c14, e14⟩ := Kd.R_slice HROW4.out
                  subst e14
                  have hpre := HRUN.out.pre
                  have hlr := ((adds_pre (tl (nxZ l1 m1 m0.length) z (3 - j) j) L).trans hpre).length_le
                  have HBW := am_ (below_then HB.out HB.out.size HM4.out.bel)
                  by_cases hj : j < 3
                  ·
                    cases gk with
                    | zero => exact absurd HGJ.out (by omega)
                    | succ g3 =>
                    obtain ⟨hx1, hx2, hyd, _, _⟩ := HNX.out z HDZ.out j hj
                    rw [← HPP.out] at hx1
                    rw [← HQQ.out] at hx2
                    have hyy : (nxZ l1 m1 m0.length) z j = nxD l1 pp j * (m0.length : Int) + nxD m1 qq j := by unfold nxZ; rw [← HPP.out, ← HQQ.out]
                    have htl : tl (nxZ l1 m1 m0.length) z (3 - j) j = (nxZ l1 m1 m0.length) z j :: tl (nxZ l1 m1 m0.length) z (3 - (j + 1)) (j + 1) := by rw [show 3 - j = (3 - (j + 1)) + 1 by omega, tl]
                    have hrun := HRUN.out
                    rw [htl, adds_cons] at hrun
                    have hrow : ((sc (nxZ l1 m1 m0.length) z).take (j + 1)).map (num R) = row ++ [num R ((nxZ l1 m1 m0.length) z j)] := by
                      rw [HRW.out]
                      match j, hj with
                      | 0, _ => rfl
                      | 1, _ => rfl
                      | 2, _ => rfl
                    generalize (nxZ l1 m1 m0.length) z j = y at hyy hrun hrow hyd
                    obtain ⟨_, e1, hcell1⟩ := cellsRows HC1.out (by have := HSZ.out; omega)
                    cases e1
                    obtain ⟨Ar, cr, hxr, hCr⟩ := hcell1 pp.toNat (by have := HSZ.out; have := HP.out; omega)
                    obtain ⟨_, e2, hcell2⟩ := cellsRows HD1.out (by have := HSZ.out; omega)
                    cases e2
                    obtain ⟨Bs, cs, hxs, hCs⟩ := hcell2 qq.toNat (by have := HSZ.out; have := HQ.out; omega)
                    have h3 := (HROW.out pp HP.out).1
                    have h4 := (HROW2.out qq HQ.out).1
                    unfold rowOf at h3 h4
                    unfold nxD at hyy hx1 hx2
                    generalize l1.getD pp.toNat [] = row1 at hxr hCr h3 hyy hx1
                    generalize m1.getD qq.toNat [] = row2 at hxs hCs h4 hyy hx2
                    obtain ⟨ar, e3, hxj⟩ := Kd.at_int hCr (j : Int) (by omega) (by omega)
                    subst e3
                    obtain ⟨br, e4, hyj⟩ := Kd.at_int hCs (j : Int) (by omega) (by omega)
                    subst e4
                    rw [h3] at hxr
                    rw [h4] at hxs
                    rw [Int.toNat_natCast] at hxj hyj
                    generalize rd row1 (j : Int) = x1 at hxj hyy hx1
                    generalize rd row2 (j : Int) = x2 at hyj hyy hx2
                    have kA := pw_cell_below HM4.out.bel hc1.out
                    have kB := pw_cell_below HM4.out.bel hc3.out
                    have hxr := pw_cell_below HBW.out hxr
                    have hxs := pw_cell_below HBW.out hxs
                    have hxj := pw_cell_below HBW.out hxj
                    have hyj := pw_cell_below HBW.out hyj
                    have hbd : 0 ≤ x1 * (m0.length : Int) ∧ x1 * (m0.length : Int) ≤ 1600 := by
                      have h5 := HSZ.out
                      refine ⟨Int.mul_nonneg hx1.1 (by omega), ?_⟩
                      calc x1 * (m0.length : Int) ≤ 40 * (m0.length : Int) := Int.mul_le_mul_of_nonneg_right (by omega) (by omega)
                        _ ≤ 1600 := by omega
                    have ew1 : wrap64 (x1 * (m0.length : Int)) = x1 * (m0.length : Int) := w64 (by omega) (by omega)
                    have ew2 : wrap64 (x1 * (m0.length : Int) + x2) = y := by rw [hyy]; exact w64 (by have := HSZ.out; omega) (by have := HSZ.out; omega)
                    have p2 : ((0 : Int) ≤ pp) = True := eq_true HP.out.1
                    have q2 : (pp < (l1.length : Int)) = True := eq_true (by have := HSZ.out; have := HP.out; omega)
                    have p3 : ((0 : Int) ≤ qq) = True := eq_true HQ.out.1
                    have q3 : (qq < (m1.length : Int)) = True := eq_true (by have := HSZ.out; have := HQ.out; omega)
                    have p4 : ((0 : Int) ≤ (j : Int)) = True := eq_true (by omega)
                    have q4 : ((j : Int) < (3 : Int)) = True := eq_true (by omega)
                    have q5 : ((j : Int) < ((3 : Nat) : Int)) = True := eq_true (by omega)
                    have HRUN := am_ hrun
                    have HROWN := am_ hrow
                    have HJ3 := am_ hj
                    have HROL : Aside0 (row.length ≤ 3) := ⟨by rw [HRW.out]; simp; omega⟩
                    have HLL : Aside0 (L.length ≤ 1600) := ⟨by have := HR16.out; omega⟩
                    have HM5 := am_ (HM4.out.below (below_drew1 (Below.refl _ _)))
                    have HROW5 := am_ (Kd.R_drew HROW4.out)
                    have HSW5 : Aside0 (W1.heap.size ≤ wr.drew.heap.size) := ⟨HSW4.out⟩
                    have HYD := am_ hyd
                    clear hrun hrow hj hpre hlr htl hcell1 hcell2 hCr hCs h3 h4 hyy hx1 hx2 hyd hbd HRW HM4 HROW4 HSW4
                    go_wp2
                    refine start_ (n := 20) (S := (fun w' => w'.cell? ⟨w.heap.size, 1, none⟩ = some (.slice (some a1) l1.length c1) ∧ w'.cell? (a1.add pp.toNat) = some (.slice (some ar) 3 cr) ∧ w'.cell? (ar.add j) = some (.int .i64 x1) ∧ w'.cell? ⟨w.heap.size + 1, 1, none⟩ = some (.slice (some b1) m1.length d1) ∧ w'.cell? (b1.add qq.toNat) = some (.slice (some br) 3 cs) ∧ w'.cell? (br.add j) = some (.int .i64 x2))) (ds := []) (bl 20 0) (by kernel_rfl) rfl rfl (⟨kA, hxr, hxj, kB, hxs, hyj⟩) (fun hHeld => ?_); refine with_tabW tab15z bits15z (fun HT_ HW_ => ?_)
                    clear kA kB hxr hxs hxj hyj
                    generalize wr.drew = w8 at HM5 HROW5 HSW5 hHeld ⊢
                    refine ph_ 0 65 (bl 20 1) HT_ ?_
                    refine ph_ 2 67 (bl 20 5) HT_ ?_
                    refine ph_ 5 70 (bl 20 37) HT_ ?_
                    refine ph_ 8 73 (bl 20 293) HT_ ?_
                    refine ph_ 10 75 (bl 20 1317) HT_ ?_
                    refine ph_ 12 77 (bl 20 5413) HT_ ?_
                    refine ph_ 15 80 (bl 20 38181) HT_ ?_
                    refine th_ 1 66 (bl 20 38183) HT_ HW_ hHeld ?_
                    refine ph_ 3 68 (bl 20 38191) HT_ ?_
                    refine th_ 4 69 (bl 20 38207) HT_ HW_ hHeld ?_
                    refine ph_ 6 71 (bl 20 38271) HT_ ?_
                    refine th_ 7 72 (bl 20 38399) HT_ HW_ hHeld ?_
                    refine ph_ 9 74 (bl 20 38911) HT_ ?_
                    refine th_ 11 76 (bl 20 40959) HT_ HW_ hHeld ?_
                    refine ph_ 13 78 (bl 20 49151) HT_ ?_
                    refine th_ 14 79 (bl 20 65535) HT_ HW_ hHeld ?_
                    refine ph_ 16 81 (bl 20 131071) HT_ ?_
                    refine th_ 17 82 (bl 20 262143) HT_ HW_ hHeld ?_
                    refine ph_ 18 83 (bl 20 524287) HT_ ?_
                    refine ph_ 19 16 (bl 20 1048575) HT_ ?_
                    refine done_ (done_of HT_.out (by kernel_rfl)) ?_
                    clear HT_ HW_ hHeld p2 q2 p3 q3 ew1 ew2
                    by_cases hmem : y ∈ L
                    ·
                      obtain ⟨kq1, hf1⟩ := (find_ev L y (by have := HLL.out; omega)).rounds
                      have hrun := HRUN.out
                      rw [add_in hmem] at hrun
                      rw [find_in hmem, ← num_pre hmem ((adds_pre _ _).trans hrun.pre)] at hf1
                      have hnn : 0 ≤ num R y := by rw [num_eq (((adds_pre _ _).trans hrun.pre).subset hmem)]; omega
                      have HRUN := am_ hrun
                      generalize num R y = ny at hf1 HROWN hnn
                      have HF1 := am_ hf1
                      have knn : (ny < 0) = False := eq_false (by omega)
                      have knd : decide (ny < 0) = false := decide_eq_false (by omega)
                      clear hf1 hrun hmem hnn
                      go_wp2_with (first
                        | (go_at_call 63; (with_reducible refine (spec_l5Find.calls kq1 _ _ L y ny _ ?fa6 ?fb6 HF1.out).mono ?_); (case fa6 => exact (Kd.R_reads' HM5.out.list).2.2); (case fb6 => exact (Kd.R_reads' HM5.out.list).2.1); rintro e w' ⟨rfl, ⟨nd, rfl⟩⟩; have hdw := pw_below_drewN (Below.refl (World.heap w8).size w8) nd; have HM6 := am_ (HM5.out.below hdw); have HROW6 := am_ (Kd.R_below HROW5.out hdw); have HSW6 := am_ (Nat.le_trans HSW5.out hdw.size); clear hdw; generalize World.drewN w8 nd = w9 at HM6 HROW6 HSW6 ⊢)
                        | (go_at_call 63; (with_reducible refine (spec_l5Find.calls kq1 _ _ L y ny _ ?fa7 ?fb7 HF1.out).mono ?_); (case fa7 => exact (Kd.R_reads' HM6.out.list).2.2); (case fb7 => exact (Kd.R_reads' HM6.out.list).2.1); rintro e w' ⟨rfl, ⟨nd, rfl⟩⟩; have hdw := pw_below_drewN (Below.refl (World.heap w9).size w9) nd; have HM7 := am_ (HM6.out.below hdw); have HROW7 := am_ (Kd.R_below HROW6.out hdw); have HSW7 := am_ (Nat.le_trans HSW6.out hdw.size); clear hdw; generalize World.drewN w9 nd = w10 at HM7 HROW7 HSW7 ⊢)
                        | (at_builtin; refine Kd.R_append (Kd.int .i64) (w0 := V) V.heap.size rfl (.tmp 92) (.tmp 96) 67 3 (.int .i64 0) 8 rfl Try.underlying67 info3 rfl (by decide) (by omega) (.slice A14 row.length c14) row ny [.int .i64 ny] (fun k => True ∧ some k ≠ (Value.slice A10 L.length c10).ownBlock) (fun _ => False) rfl rfl ?aP (fun _ hk => hk.elim) ?aF ?aO ?aB ?aS ?aL ?_; (case aP => exact rfl); (case aO => exact HROW7.out); (case aF => exact (fun k hk => ⟨trivial, fun he => by have h_ := Kd.R_lt HM7.out.list k he.symm; omega⟩)); (case aB => exact HM7.out.bel); (case aS => exact HM7.out.bel.size); (case aL => have := HROL.out; omega); intro v14n w11 ho hb hg hat; have HROWZ := am_ ho; have HMZ := am_ (HM7.out.rowed HROW7.out hg hat (fun k hk he => by have h_ := HOB.out k he.symm; have h2_ := hk.1; omega) hb); have HOBZ := am_ (own_at hat HOB.out HSW7.out); have HSWZ := am_ (Nat.le_trans HSW7.out hg.size); clear ho hb hg hat))
                      go_roundg g3
                      case measure => omega
                      case rel => exact ⟨L, row ++ [ny], j + 1, by rw [up1 (by have := HJ3.out; omega)], ⟨HJ3.out⟩, ⟨by have := HGJ.out; omega⟩, HRUN, HLI, ⟨HROWN.out.symm⟩, HMZ, HROWZ, HOBZ, HSWZ⟩
                    ·
                      obtain ⟨kq1, hf1⟩ := (find_ev L y (by have := HLL.out; omega)).rounds
                      obtain ⟨kq2, hf2⟩ := (find_ev (L ++ [y]) y (by have := HLL.out; simp; omega)).rounds
                      have hrun := HRUN.out
                      rw [add_out hmem] at hrun
                      have hm2 : y ∈ L ++ [y] := by simp
                      rw [find_in hm2, ← num_pre hm2 ((adds_pre _ _).trans hrun.pre)] at hf2
                      have e1 : findOf L y = -1 := by unfold findOf; rw [if_neg hmem]
                      rw [e1] at hf1
                      have HRUN := am_ hrun
                      generalize num R y = ny at hf2 HROWN
                      have HF1 := am_ hf1
                      have HF2 := am_ hf2
                      have HLL2 : Aside0 (i < L.length) := ⟨(List.getElem?_eq_some_iff.mp HLI.out).1⟩
                      clear hf1 hf2 hrun hmem e1 hm2
                      go_wp2_with (first
                        | (go_at_call 63; (with_reducible refine (spec_l5Find.calls kq1 _ _ L y (-1) _ ?fa6 ?fb6 HF1.out).mono ?_); (case fa6 => exact (Kd.R_reads' HM5.out.list).2.2); (case fb6 => exact (Kd.R_reads' HM5.out.list).2.1); rintro e w' ⟨rfl, ⟨nd, rfl⟩⟩; have hdw := pw_below_drewN (Below.refl (World.heap w8).size w8) nd; have HM6 := am_ (HM5.out.below hdw); have HROW6 := am_ (Kd.R_below HROW5.out hdw); have HSW6 := am_ (Nat.le_trans HSW5.out hdw.size); clear hdw; generalize World.drewN w8 nd = w9 at HM6 HROW6 HSW6 ⊢)
                        | (go_at_call 63; (with_reducible refine (spec_l5Find.calls kq2 _ _ L2 y ny _ ?fa8 ?fb8 HF3.out).mono ?_); (case fa8 => exact (Kd.R_reads' HM7.out.list).2.2); (case fb8 => exact (Kd.R_reads' HM7.out.list).2.1); rintro e w' ⟨rfl, ⟨nd, rfl⟩⟩; have hdw := pw_below_drewN (Below.refl (World.heap w10).size w10) nd; have HM8 := am_ (HM7.out.below hdw); have HROW8 := am_ (Kd.R_below HROW7.out hdw); have HSW8 := am_ (Nat.le_trans HSW7.out hdw.size); clear hdw; generalize World.drewN w10 nd = w11 at HM8 HROW8 HSW8 ⊢)
                        | (at_builtin; refine Kd.R_append (Kd.int .i64) (w0 := V) V.heap.size rfl (.tmp 88) (.tmp 90) 67 3 (.int .i64 0) 8 rfl Try.underlying67 info3 rfl (by decide) (by omega) (.slice A10 L.length c10) L y [.int .i64 y] (fun k => True ∧ some k ≠ (Value.slice A14 row.length c14).ownBlock) (fun _ => False) rfl rfl ?bP (fun _ hk => hk.elim) ?bF ?bO ?bB ?bS ?bL ?_; (case bP => exact rfl); (case bO => exact HM6.out.list); (case bF => exact (fun k hk => ⟨trivial, fun he => by have h_ := Kd.R_lt HROW6.out k he.symm; omega⟩)); (case bB => exact HM6.out.bel); (case bS => exact HM6.out.bel.size); (case bL => have := HLL.out; omega); intro v10n w10 ho hb hg hat; obtain ⟨L2, hL2⟩ : ∃ L2 : List Int, L2 = L ++ [y] := ⟨_, rfl⟩; rw [← hL2] at ho; have HF3 : Aside0 (spec_l5Find.f kq2 L2 y = some ny) := ⟨by rw [hL2]; exact HF2.out⟩; have HL2 := am_ hL2; clear hL2; have HM7 := am_ (HM6.out.listed hg hat ho hb); have HROW7 := am_ (Kd.R_after HROW6.out hg hat); have HSW7 := am_ (Nat.le_trans HSW6.out hg.size); obtain ⟨A10n, c10n, e10n⟩ := Kd.R_slice ho; subst e10n; clear ho hb hg hat)
                        | (at_builtin; refine Kd.R_append (Kd.int .i64) (w0 := V) V.heap.size rfl (.tmp 92) (.tmp 96) 67 3 (.int .i64 0) 8 rfl Try.underlying67 info3 rfl (by decide) (by omega) (.slice A14 row.length c14) row ny [.int .i64 ny] (fun k => True ∧ some k ≠ (Value.slice A10n L2.length c10n).ownBlock) (fun _ => False) rfl rfl ?aP (fun _ hk => hk.elim) ?aF ?aO ?aB ?aS ?aL ?_; (case aP => exact rfl); (case aO => exact HROW8.out); (case aF => exact (fun k hk => ⟨trivial, fun he => by have h_ := Kd.R_lt HM8.out.list k he.symm; omega⟩)); (case aB => exact HM8.out.bel); (case aS => exact HM8.out.bel.size); (case aL => have := HROL.out; omega); intro v14n w12 ho hb hg hat; have HROWZ := am_ ho; have HMZ := am_ (HM8.out.rowed HROW8.out hg hat (fun k hk he => by have h_ := HOB.out k he.symm; have h2_ := hk.1; omega) hb); have HOBZ := am_ (own_at hat HOB.out HSW8.out); have HSWZ := am_ (Nat.le_trans HSW8.out hg.size); clear ho hb hg hat))
                      go_roundg g3
                      case measure => omega
                      case rel => exact ⟨L2, row ++ [ny], j + 1, by rw [up1 (by have := HJ3.out; omega)], ⟨HJ3.out⟩, ⟨by have := HGJ.out; omega⟩, ⟨by rw [HL2.out]; exact HRUN.out⟩, ⟨by rw [HL2.out, List.getElem?_append_left HLL2.out]; exact HLI.out⟩, ⟨HROWN.out.symm⟩, HMZ, HROWZ, HOBZ, HSWZ⟩
                  ·
                    have ej : j = 3 := by have := HJ.out; omega
                    subst ej
                    have d3 : decide (((3 : Nat) : Int) < 3) = false := by decide
                    have hrun : Runs (sc (nxZ l1 m1 m0.length)) L (i + 1) R := HRUN.out
                    have HRUN := am_ hrun
                    have hrowx : row = rowX (nxZ l1 m1 m0.length) R z := by rw [HRW.out]; rfl
                    have hi2 : i < L.length := (List.getElem?_eq_some_iff.mp HLI.out).1
                    have hRt : R.take (i + 1) = R.take i ++ [z] := by
                      obtain ⟨h1, h2⟩ := List.getElem?_eq_some_iff.mp HRI.out
                      rw [List.take_succ_eq_append_getElem h1, h2]
                    obtain ⟨_, e1, hu0⟩ := Kd.at_bool HC0.out pp HP.out.1 HP.out.2
                    cases e1
                    obtain ⟨_, e2, hv0⟩ := Kd.at_bool HD0.out qq HQ.out.1 HQ.out.2
                    cases e2
                    have hac : acZ kd l0 m0 z = bothB kd (rdOf false l0 pp) (rdOf false m0 qq) := by unfold acZ; rw [HPP.out, HQQ.out]
                    have hb6 : ∀ u v, bothB kd u v = bothB _ u v := fun u v => by rw [HKD.out]
                    rw [hb6] at hac
                    clear hb6
                    have hu0 := pw_cell_below HBW.out hu0
                    have hv0 := pw_cell_below HBW.out hv0
                    have kA := pw_cell_below HM4.out.bel hc0.out
                    have kB := pw_cell_below HM4.out.bel hc2.out
                    have hz0 : World.cell? wr ⟨V.heap.size, 0, none⟩ = some (.slice Aa xa.length ca) := (blk_cell HM4.out.box 0).trans rfl
                    have hz1 : World.cell? wr ⟨V.heap.size, 1, none⟩ = some (.slice Ay xy.length cy) := (blk_cell HM4.out.box 1).trans rfl
                    have hfz0 := blk_frozen HM4.out.box 0
                    have p2 : ((0 : Int) ≤ pp) = True := eq_true HP.out.1
                    have q2 : (pp < (l0.length : Int)) = True := eq_true HP.out.2
                    have p3 : ((0 : Int) ≤ qq) = True := eq_true HQ.out.1
                    have q3 : (qq < (m0.length : Int)) = True := eq_true HQ.out.2
                    have HLENS : Aside0 (xa.length ≤ 1000000 ∧ xy.length ≤ 1000000) := ⟨by rw [HXA.out, HXY.out]; simp; have := HR16.out; omega⟩
                    have HI5 := am_ hi2
                    have HII : Aside0 (i ≤ 1600) := ⟨by have := HR16.out; omega⟩
                    have HRX := am_ hrowx
                    have HRT := am_ hRt
                    clear hj hrun hrowx hi2 hRt hpre hlr
                    generalize rdOf false l0 pp = uu at hu0 hac
                    generalize rdOf false m0 qq = vv at hv0 hac
                    cases uu <;> cases vv
                    all_goals
                      simp only [bothB, Int.reduceEq, ↓reduceIte, if_true, if_false, Bool.or_false, Bool.or_true, Bool.and_false, Bool.and_true, Bool.false_or, Bool.true_or, Bool.or_self, Bool.and_self] at hac
                      have HAC := am_ hac
                      clear hac
                      go_wp2_with (first
                        | ((with_reducible refine gate_builtin (b := .append) (xs := #[.tmp 125, .tmp 127]) rfl ?_); at_builtin; refine Kd.R_append Kd.bool (w0 := V) V.heap.size rfl (.tmp 125) (.tmp 127) 22 4 (.bool false) 1 rfl Try.underlying22 info4 rfl (by decide) (by omega) (.slice Aa xa.length ca) xa true [.bool true] (fun _ => True) (fun _ => False) rfl rfl ?aP (fun _ hk => hk.elim) ?aF ?aO ?aB ?aS ?aL ?_; (case aP => exact rfl); (case aF => exact (fun _ _ => trivial)); (case aO => exact HM4.out.acc); (case aB => exact HM4.out.bel); (case aS => exact HM4.out.bel.size); (case aL => have := HLENS.out; omega); intro v22 w9 ho hb hg hat; have HM9 := am_ (HM4.out.accd hg ho hb); have HROW9 := am_ (Kd.R_over' HROW4.out (Kd.R_typed HM4.out.acc) (by decide) hg); obtain ⟨A22, c22, e22⟩ := Kd.R_slice ho; rw [List.length_append, List.length_singleton] at e22; subst e22; have hcz0 : World.cell? w9 ⟨V.heap.size, 0, none⟩ = some (.slice Aa xa.length ca) := (blk_cell HM9.out.box 0).trans rfl; have hfz0 := blk_frozen HM9.out.box 0; clear ho hb hg hat)
                        | ((with_reducible refine gate_builtin (b := .append) (xs := #[.tmp 125, .tmp 127]) rfl ?_); at_builtin; refine Kd.R_append Kd.bool (w0 := V) V.heap.size rfl (.tmp 125) (.tmp 127) 22 4 (.bool false) 1 rfl Try.underlying22 info4 rfl (by decide) (by omega) (.slice Aa xa.length ca) xa false [.bool false] (fun _ => True) (fun _ => False) rfl rfl ?bP (fun _ hk => hk.elim) ?bF ?bO ?bB ?bS ?bL ?_; (case bP => exact rfl); (case bF => exact (fun _ _ => trivial)); (case bO => exact HM4.out.acc); (case bB => exact HM4.out.bel); (case bS => exact HM4.out.bel.size); (case bL => have := HLENS.out; omega); intro v22 w9 ho hb hg hat; have HM9 := am_ (HM4.out.accd hg ho hb); have HROW9 := am_ (Kd.R_over' HROW4.out (Kd.R_typed HM4.out.acc) (by decide) hg); obtain ⟨A22, c22, e22⟩ := Kd.R_slice ho; rw [List.length_append, List.length_singleton] at e22; subst e22; have hcz0 : World.cell? w9 ⟨V.heap.size, 0, none⟩ = some (.slice Aa xa.length ca) := (blk_cell HM9.out.box 0).trans rfl; have hfz0 := blk_frozen HM9.out.box 0; clear ho hb hg hat)
                        | ((with_reducible refine gate_store (t := 22) (p := 129) rfl ?_); refine store_event (t := 22) (p := 129) (v := ?vo_w1) (w1 := (w9.setCell ⟨V.heap.size, 0, none⟩ (.slice A22 (xa.length + 1) c22))) ?hg ?ho ?hn ?hr ?_; (case ho => rfl); (case hg => rfl); (case hn => rfl); (case hr => first | (go_simp; done) | (go_simp; rfl)); intro w1 hw; have HM1 := am_ (HM9.out.put (v := (.slice A22 (xa.length + 1) c22)) H69.out (Nat.le_refl _) 0 (blk_put HM9.out.box 0 _ rfl)); have HROW1 := am_ (Kd.R_set HROW9.out HM9.out.box (by decide) 0 (.slice A22 (xa.length + 1) c22)); rw [← hw] at HM1 HROW1; have hcz1 : World.cell? w1 ⟨V.heap.size, 1, none⟩ = some (.slice Ay xy.length cy) := (blk_cell HM1.out.box 1).trans rfl; clear hw)
                        | ((with_reducible refine gate_builtin (b := .append) (xs := #[.tmp 131, .tmp 133]) rfl ?_); at_builtin; refine Kd.S_append (Kd.slice 3 (Kd.int .i64)) (w0 := V) V.heap.size rfl (.tmp 131) (.tmp 133) 23 67 (.slice none 0 0) 24 rfl Try.underlying23 info67 rfl (by decide) (by omega) (.slice Ay xy.length cy) xy row [.slice A14 row.length c14] (fun k => True ∧ some k ≠ (Value.slice A10 L.length c10).ownBlock) (fun b => some b = (.slice A14 row.length c14 : Value).ownBlock) rfl rfl ?sP ?sK ?sF ?sO ?sB ?sS ?sL ?_; (case sP => exact Kd.M_row (Kd.R_tight rfl HROW1.out)); (case sK => exact (fun b hb => ⟨⟨trivial, (HROW1.out.1 b hb.symm).2⟩, fun he => by have h1 := HOB.out b hb.symm; have h2 := ((Kd.S_R HM1.out.rows).1 b he.symm).1; omega⟩)); (case sF => exact (fun k hk => ⟨trivial, fun he => by have h_ := Kd.R_lt HM1.out.list k he.symm; omega⟩)); (case sO => exact Kd.S_mono HM1.out.rows (fun b hb => ⟨⟨trivial, hb.2⟩, fun he => by have h1 := HOB.out b he.symm; have h2 := hb.1; omega⟩)); (case sB => exact HM1.out.bel); (case sS => exact HM1.out.bel.size); (case sL => have := HLENS.out; omega); intro v23 w2 ho hb hg hat; have HM2 := am_ (HM1.out.rowsd hg ho hb); obtain ⟨A23, c23, e23⟩ := Kd.S_slice ho; rw [List.length_append, List.length_singleton] at e23; subst e23; clear ho hb hg hat; have hcz1 : World.cell? w2 ⟨V.heap.size, 1, none⟩ = some (.slice Ay xy.length cy) := (blk_cell HM2.out.box 1).trans rfl; have hfz1 := blk_frozen HM2.out.box 1))
                      go_roundg g
                      case measure => omega
                      case rel =>
                        have HM3 := HM2.out.put (v := (.slice A23 (xy.length + 1) c23)) H69.out (Nat.le_refl _) 1 (blk_put HM2.out.box 1 _ rfl)
                        exact ⟨L, i + 1, _, _, _, _, by rw [up1 (by have := HII.out; omega)], ⟨HI5.out⟩, ⟨by have := HG.out; omega⟩, HRUN, ⟨by rw [HRT.out, List.map_append, ← HXA.out, List.map_singleton, HAC.out]⟩, ⟨by rw [HRT.out, List.map_append, ← HXY.out, List.map_singleton, ← HRX.out]⟩, ⟨Kd.R_mono HM3.list (fun _ _ => trivial), HM3.acc, HM3.rows, HM3.box, HM3.res, HM3.bel⟩⟩
              ·
                have eL : L = R := by
                  cases HRUN.out with
                  | stop h => rfl
                  | step h _ => exact absurd h hi
                subst eL
                have ei : i = L.length := by have := HI.out; omega
                subst ei
                have hxa := HXA.out
                have hxy := HXY.out
                rw [List.take_length] at hxa hxy
                have hkf := HKF.out
                first | rw [← hxa, ← hxy] at hkf | (rw [HKD.out] at hxa; rw [← hxa, ← hxy] at hkf)
                have HKF2 := am_ hkf
                have q1 : ((L.length : Int) < (L.length : Int)) = False := eq_false (by omega)
                have hz0 : World.cell? wr ⟨V.heap.size, 0, none⟩ = some (.slice Aa xa.length ca) := (blk_cell HMEM.out.box 0).trans rfl
                have hz1 : World.cell? wr ⟨V.heap.size, 1, none⟩ = some (.slice Ay xy.length cy) := (blk_cell HMEM.out.box 1).trans rfl
                have HBW := am_ (below_then HB.out HB.out.size HMEM.out.bel)
                clear hi hpre hlr hxa hxy hkf HKF HXA HXY HRUN HI HG
                go_wp2_with ((go_at_call 64; (with_reducible refine (spec_l5Fits.calls kf _ _ xa _ _ xy f1 f2 f3 _ ?y0 ?y1 ?y2 ?y3 HKF2.out).mono ?_); (case y0 => exact (Kd.R_reads' HMEM.out.acc).2.2); (case y1 => exact (Kd.R_reads' HMEM.out.acc).2.1); (case y2 => exact (Kd.S_reads' HMEM.out.rows).2.2); (case y3 => exact (Kd.S_reads' HMEM.out.rows).2.1); rintro e w5 ⟨z0, z1, rfl, hq0, hq1, hb⟩; obtain ⟨Z0, z0c, e0⟩ := Kd.R_slice hq0; subst e0; obtain ⟨Z1, z1c, e1⟩ := Kd.S_slice hq1; subst e1; have HR5 := am_ (blk_alloc (blk_below HMEM.out.res hb) (Obj.cells #[.slice Z0 f1.length z0c, .slice Z1 f2.length z1c] 27)); have HB5 := am_ (below_alloc (below_then HBW.out HBW.out.size hb) (Obj.cells #[.slice Z0 f1.length z0c, .slice Z1 f2.length z1c] 27)); have HZ0 := am_ (Kd.R_alloc (Kd.R_lower hq0 HBW.out.size) (Obj.cells #[.slice Z0 f1.length z0c, .slice Z1 f2.length z1c] 27)); have HZ1 := am_ (Kd.S_alloc (Kd.S_lower hq1 HBW.out.size) (Obj.cells #[.slice Z0 f1.length z0c, .slice Z1 f2.length z1c] 27)); have hcy0 : World.cell? (w5.alloc (Obj.cells #[.slice Z0 f1.length z0c, .slice Z1 f2.length z1c] 27)) ⟨w.heap.size + 1 + 1, 0, none⟩ = some (.slice none 0 0) := (blk_cell HR5.out 0).trans rfl; have hcy1 : World.cell? (w5.alloc (Obj.cells #[.slice Z0 f1.length z0c, .slice Z1 f2.length z1c] 27)) ⟨w.heap.size + 1 + 1, 1, none⟩ = some (.slice none 0 0) := (blk_cell HR5.out 1).trans rfl; have hfy0 := blk_frozen HR5.out 0; have hfy1 := blk_frozen HR5.out 1; clear hz0 hz1 hq0 hq1 hb))
                have HB4' : Aside0 (((w5.alloc (Obj.cells #[.slice Z0 f1.length z0c, .slice Z1 f2.length z1c] 27)).setCell ⟨w.heap.size + 1 + 1, 0, none⟩ (.slice Z0 f1.length z0c)).heap[w.heap.size + 1 + 1]? = some (.cells #[.slice Z0 f1.length z0c, .slice none 0 0] 27 (0, 0))) := ⟨blk_put HR5.out 0 _ rfl⟩
                have HT4 : Aside0 ((((w5.alloc (Obj.cells #[.slice Z0 f1.length z0c, .slice Z1 f2.length z1c] 27)).setCell ⟨w.heap.size + 1 + 1, 0, none⟩ (.slice Z0 f1.length z0c)).setCell ⟨w.heap.size + 1 + 1, 1, none⟩ (.slice Z1 f2.length z1c)).heap[w.heap.size + 1 + 1]? = some (.cells #[.slice Z0 f1.length z0c, .slice Z1 f2.length z1c] 27 (0, 0))) := ⟨blk_put HB4'.out 1 _ rfl⟩
                refine bodyPost_ret (results_ct rfl _ _ (w.heap.size + 1 + 1) 27 #[.slice Z0 f1.length z0c, .slice Z1 f2.length z1c] (0, 0) _ rfl HT4.out Try.underlying27 rfl (by kernel_rfl)) rfl ?_
                exact ⟨_, _, rfl, Kd.R_set (Kd.R_set HZ0.out HR5.out (by decide) 0 _) HB4'.out (by decide) 1 _, Kd.S_set (Kd.S_set HZ1.out HR5.out (by decide) 0 _) HB4'.out (by decide) 1 _, below_set (below_set HB5.out HGE.out) HGE.out⟩
      · have e : pdR l0 l1 m0 m1 kind = ([], [], false) := by unfold pdR; rw [if_neg]; rintro ⟨_, h⟩; exact hkk h
        rw [e]
        subst hOA hOB hOD
        have k6 : (kind = 6) = False := eq_false (fun h => hkk (Or.inl h))
        have k7 : (kind = 7) = False := eq_false (fun h => hkk (Or.inr h))
        have k6b : (kind == 6) = false := beq_eq_false_iff_ne.mpr (fun h => hkk (Or.inl h))
        have k7b : (kind == 7) = false := beq_eq_false_iff_ne.mpr (fun h => hkk (Or.inr h))
        have k6c : (kind != 6) = true := by rw [bne, k6b]; rfl
        have k7c : (kind != 7) = true := by rw [bne, k7b]; rfl
        have k6d : decide (kind = 6) = false := decide_eq_false (fun h => hkk (Or.inl h))
        have k7d : decide (kind = 7) = false := decide_eq_false (fun h => hkk (Or.inr h))
        clear hv hv2 e hr0 hr1 hs0 hs1 hkk hka hkb hc0 hc1 hd0 hd1 z0 z1 z2 z3
        go_enter Try.func19, Try.ntmps19
        go_wp2_with (first | (go_at_call 35; (with_reducible refine (HV.out _ ?hq0).mono ?_); (case hq0 => exact HB0.out); rintro e w1 ⟨rfl, hb⟩; have HB1 := bt_ HB0 hb; have HR1 := am_ (blk_below HR8.out hb); have ha0 := am_ (pw_cell_below hb KA0.out); have ha1 := am_ (pw_cell_below hb KA1.out); have hb0 := pw_cell_below hb KB0.out; have hb1 := pw_cell_below hb KB1.out; clear hb) | (go_at_call 35; (with_reducible refine (HV2.out _ ?hq1).mono ?_); (case hq1 => exact HB1.out); rintro e V ⟨rfl, hb⟩; have HB := bt_ HB1 hb; have HR9 := am_ (blk_below HR1.out hb); have hc0 := am_ (pw_cell_below hb ha0.out); have hc1 := am_ (pw_cell_below hb ha1.out); have hc2 := pw_cell_below hb hb0; have hc3 := am_ (pw_cell_below hb hb1); have hcz0 : World.cell? V ⟨w.heap.size + 1 + 1, 0, none⟩ = some (.slice none 0 0) := (blk_cell HR9.out 0).trans rfl; have hcz1 : World.cell? V ⟨w.heap.size + 1 + 1, 1, none⟩ = some (.slice none 0 0) := (blk_cell HR9.out 1).trans rfl; have hfz0 := blk_frozen HR9.out 0; have hfz1 := blk_frozen HR9.out 1; clear hb hb0 hb1))
        have HT4 : Aside0 (((V.setCell ⟨w.heap.size + 1 + 1, 0, none⟩ (.slice none 0 0)).setCell ⟨w.heap.size + 1 + 1, 1, none⟩ (.slice none 0 0)).heap[w.heap.size + 1 + 1]? = some (.cells #[.slice none 0 0, .slice none 0 0] 27 (0, 0))) := ⟨blk_put (blk_put (cs' := #[.slice none 0 0, .slice none 0 0]) HR9.out 0 _ rfl) 1 _ rfl⟩
        refine bodyPost_ret (results_ct rfl _ _ (w.heap.size + 1 + 1) 27 #[.slice none 0 0, .slice none 0 0] (0, 0) _ rfl HT4.out Try.underlying27 rfl (by kernel_rfl)) rfl ?_
        exact ⟨_, _, rfl, Kd.R_nil _ _ _ _ _, Kd.S_nil _ _ _ _ _, below_set (below_set HB.out HGE.out) HGE.out⟩
end Go.Proofs.Ytogamkblkoobkaa.Wk
end
section
namespace Go.Proofs.Ytogamkblkoobkaa.P
open Go.RowKit Go.Proofs.YtogamkblkoobkaaW.PrintWords Go.Proofs.YtogamkblkoobkaaW.PrintLast Go.Proofs.YtogamkblkoobkaaW.PrintMore
attribute [local go_sem] max2_int min2_int max_two min_two max_three min_three max_four min_four
set_option linter.unusedVariables false
set_option linter.unusedSimpArgs false
def spec_ProductDfa.f (l0_0 : List Bool) (l0_1 : List (List Int)) (l1_0 : List Bool) (l1_1 : List (List Int)) (a2 : Int) : Option (List Bool × List (List Int) × Bool) := if l0_0.length ≤ 1048576 ∧ l0_1.length ≤ 1048576 ∧ l1_0.length ≤ 1048576 ∧ l1_1.length ≤ 1048576 then some (Wk.pdR l0_0 l0_1 l1_0 l1_1 a2) else none
theorem spec_ProductDfa.calls (A0_0 : Option Addr) (c0_0 : Nat) (l0_0 : List Bool) (A0_1 : Option Addr) (c0_1 : Nat) (l0_1 : List (List Int)) (A1_0 : Option Addr) (c1_0 : Nat) (l1_0 : List Bool) (A1_1 : Option Addr) (c1_1 : Nat) (l1_1 : List (List Int)) (a2 : Int) (r1 : List Bool) (r2 : List (List Int)) (r3 : Bool) (w : World) (hr0_0 : Kd.C Kd.bool w A0_0 l0_0.length l0_0) (hc0_0 : l0_0.length ≤ c0_0) (hr0_1 : Kd.C (Kd.slice 3 (Kd.int .i64)) w A0_1 l0_1.length l0_1) (hc0_1 : l0_1.length ≤ c0_1) (hr1_0 : Kd.C Kd.bool w A1_0 l1_0.length l1_0) (hc1_0 : l1_0.length ≤ c1_0) (hr1_1 : Kd.C (Kd.slice 3 (Kd.int .i64)) w A1_1 l1_1.length l1_1) (hc1_1 : l1_1.length ≤ c1_1) (h : spec_ProductDfa.f l0_0 l0_1 l1_0 l1_1 a2 = some (r1, r2, r3)) :
    Calls Try.prog 19 #[.agg #[.slice A0_0 l0_0.length c0_0, .slice A0_1 l0_1.length c0_1], .agg #[.slice A1_0 l1_0.length c1_0, .slice A1_1 l1_1.length c1_1], .int .i64 a2] w fun e w' => ∃ v0_ v1_ : Value, e = .returned (.tuple #[.agg #[v0_, v1_], .bool r3]) ∧ Kd.R Kd.bool 4 w' w.heap.size (fun _ => True) v0_ r1 ∧ Kd.S (Kd.slice 3 (Kd.int .i64)) 67 w' w.heap.size (fun _ => True) v1_ r2 ∧ Below w.heap.size w w' := by
  unfold spec_ProductDfa.f at h
  split at h
  · rename_i hp
    have h := Option.some.inj h
    have e1 : (Wk.pdR l0_0 l0_1 l1_0 l1_1 a2).1 = r1 := by rw [h]
    have e2 : (Wk.pdR l0_0 l0_1 l1_0 l1_1 a2).2.1 = r2 := by rw [h]
    have e3 : (Wk.pdR l0_0 l0_1 l1_0 l1_1 a2).2.2 = r3 := by rw [h]
    rw [← e1, ← e2, ← e3]
    exact Wk.spdCalls A0_0 c0_0 l0_0 A0_1 c0_1 l0_1 A1_0 c1_0 l1_0 A1_1 c1_1 l1_1 a2 w hr0_0 hc0_0 hr0_1 hc0_1 hr1_0 hc1_0 hr1_1 hc1_1 hp.1 hp.2.1 hp.2.2.1 hp.2.2.2
  · cases h
end Go.Proofs.Ytogamkblkoobkaa.P
end
section
namespace Go.Proofs.Ytogamkblkoobkaa.Can
open Go.RowKit Go.Proofs.Ytogamkblkoobkaa Go.Proofs.Ytogamkblkoobkaa.P Go.Proofs.Ytogamkblkoobkaa.Wk Go.Proofs.Ytogamkblkoobkaa.Pl Go.Proofs.YtogamkblkoobkaaW.PrintWords Go.Proofs.YtogamkblkoobkaaW.PrintLast Go.Proofs.YtogamkblkoobkaaW.PrintMore
set_option linter.unusedVariables false
theorem spec_pd (a : List Bool) (n : List (List Int)) (b : List Bool) (m : List (List Int)) (k : Int) (h1 : a.length ≤ 1048576) (h2 : n.length ≤ 1048576) (h3 : b.length ≤ 1048576) (h4 : m.length ≤ 1048576) : spec_ProductDfa.f a n b m k = some (pdR a n b m k) := by
  unfold spec_ProductDfa.f
  rw [if_pos ⟨h1, h2, h3, h4⟩]
theorem pdR_len (a : List Bool) (n : List (List Int)) (b : List Bool) (m : List (List Int)) (k : Int) : (pdR a n b m k).1.length ≤ 40 ∧ (pdR a n b m k).2.1.length ≤ 40 ∧ ∀ r ∈ (pdR a n b m k).2.1, r.length = 3 := by
  unfold pdR
  by_cases h : (validD a n = true ∧ validD b m = true) ∧ (k = 6 ∨ k = 7)
  · rw [if_pos h]
    obtain ⟨q, _, hx, hau, _⟩ := pd_some (kind := k) h.1.1 h.1.2
    rw [hx]
    exact fitD_len hau.rows.1 hau.rows.2
  · rw [if_neg h]
    simp
end Go.Proofs.Ytogamkblkoobkaa.Can
end
section
namespace Go.Proofs.Ytogamkblkoobkaa.P
open Go.RowKit Go.Proofs.YtogamkblkoobkaaW.PrintWords Go.Proofs.YtogamkblkoobkaaW.PrintLast Go.Proofs.YtogamkblkoobkaaW.PrintMore
attribute [local go_sem] max2_int min2_int max_two min_two max_three min_three max_four min_four
set_option linter.unusedVariables false
set_option linter.unusedSimpArgs false
def laws_big.f (l0 : List Int) : Option (Bool) := some (decide ((l0.length : Int) > 1048576))
set_option maxHeartbeats 8000000 in
set_option maxRecDepth 100000 in
theorem laws_big.calls (A0 : Option Addr) (c0 : Nat) (l0 : List Int) (r : Bool) (w : World) (hr0 : Kd.C (Kd.int .u8) w A0 l0.length l0) (hc0 : l0.length ≤ c0) (h : laws_big.f l0 = some r) :
    Calls Try.prog 27 #[.slice A0 l0.length c0] w fun e w' => e = .returned (.bool r) ∧ Drawn0 w w' := by
  have HR0 := am_ hr0
  have HC0 := am_ hc0
  clear hr0 hc0
  have H : (some (decide ((l0.length : Int) > 1048576))) = some r := h
  clear h
  obtain rfl := Option.some.inj H
  simp only [Option.some.injEq, Prod.mk.injEq] at H
  obtain ⟨rfl⟩ := H
  go_enter Try.func27, Try.ntmps27
  go_wp2
  go_ret
  exact ⟨by first | rfl | (simp; done) | (simp [*]; done), by repeat (first | exact Drawn0.refl _ | apply Drawn0.step)⟩
def IsS125 (w0 W : World) (g : Nat) (f0 : List Int) (f1 : Int) (f2 : Int) : Prop := ∃ A0 c0, W.heap[g]? = some (.cells #[.slice A0 f0.length c0, .int .i64 f1, .int .i64 f2] 125 (0, 0)) ∧ w0.heap.size ≤ g ∧ Kd.C (Kd.int .u8) w0 A0 f0.length f0
theorem IsS125.grown {w0 W : World} {g : Nat} {f0 : List Int} {f1 : Int} {f2 : Int} {W1 : World} {row : Option Nat} (h : IsS125 w0 W g f0 f1 f2) (hw : W.grownBy W1 row) (hne : some g ≠ row) : IsS125 w0 W1 g f0 f1 f2 := by
  obtain ⟨A0, c0, hb, hg, hr0⟩ := h
  exact ⟨A0, c0, blk_grown hb hw hne, hg, hr0⟩
theorem IsS125.kept {w0 W : World} {g : Nat} {f0 : List Int} {f1 : Int} {f2 : Int} {W1 : World} {S : Nat → Prop} (h : IsS125 w0 W g f0 f1 f2) (hk : Kept W W1 S) (hne : ¬ S g) : IsS125 w0 W1 g f0 f1 f2 := by
  obtain ⟨A0, c0, hb, hg, hr0⟩ := h
  exact ⟨A0, c0, blk_kept hb hk hne, hg, hr0⟩
theorem IsS125.below {w0 W : World} {g : Nat} {f0 : List Int} {f1 : Int} {f2 : Int} {W1 : World} (h : IsS125 w0 W g f0 f1 f2) (hw : Below W.heap.size W W1) : IsS125 w0 W1 g f0 f1 f2 := h.grown (grown_of_below hw none) (by simp)
theorem IsS125.alloc {w0 W : World} {g : Nat} {f0 : List Int} {f1 : Int} {f2 : Int} (h : IsS125 w0 W g f0 f1 f2) (o : Obj) : IsS125 w0 (W.alloc o) g f0 f1 f2 := h.below (below_alloc (Below.refl _ _) o)
theorem IsS125.drewN {w0 W : World} {g : Nat} {f0 : List Int} {f1 : Int} {f2 : Int} (h : IsS125 w0 W g f0 f1 f2) (m : Nat) : IsS125 w0 (W.drewN m) g f0 f1 f2 := h
theorem IsS125.drew {w0 W : World} {g : Nat} {f0 : List Int} {f1 : Int} {f2 : Int} (h : IsS125 w0 W g f0 f1 f2) : IsS125 w0 W.drew g f0 f1 f2 := h
theorem IsS125.at_ {w0 W : World} {g : Nat} {f0 : List Int} {f1 : Int} {f2 : Int} {w' : World} {m : Nat} (hq : W.drewN m = w') (h : IsS125 w0 W g f0 f1 f2) : IsS125 w0 w' g f0 f1 f2 := by subst hq; exact IsS125.drewN h m
theorem IsS125.apart {w0 W : World} {g : Nat} {f0 : List Int} {f1 : Int} {f2 : Int} {α : Type} {d : Kd α} {e : Nat} {base : Nat} {ok : Nat → Prop} {v : Value} {xs : List α} (h : IsS125 w0 W g f0 f1 f2) (ho : d.R e W base ok v xs) (ht : ∀ q, q ∈ e :: d.E → q ≠ 125) : d.R e W base (fun k => ok k ∧ k ≠ g) v xs := by
  obtain ⟨A0, c0, hb, hg, hr0⟩ := h
  exact Kd.R_types ho hb ht
theorem IsS125.own_ne {w0 W : World} {g : Nat} {f0 : List Int} {f1 : Int} {f2 : Int} {α : Type} {d : Kd α} {e : Nat} {base : Nat} {ok : Nat → Prop} {v : Value} {xs : List α} (h : IsS125 w0 W g f0 f1 f2) (ho : d.R e W base ok v xs) (ht : e ≠ 125) : some g ≠ v.ownBlock := by
  obtain ⟨A0, c0, hb, hg, hr0⟩ := h
  exact Kd.R_ne ho hb ht
theorem IsS125.apartS {w0 W : World} {g : Nat} {f0 : List Int} {f1 : Int} {f2 : Int} {α : Type} {d : Kd α} {e : Nat} {base : Nat} {ok : Nat → Prop} {v : Value} {xs : List α} (h : IsS125 w0 W g f0 f1 f2) (ho : d.S e W base ok v xs) (ht : ∀ q, q ∈ e :: d.E → q ≠ 125) : d.S e W base (fun k => ok k ∧ k ≠ g) v xs := by
  obtain ⟨A0, c0, hb, hg, hr0⟩ := h
  exact Kd.S_types ho hb ht
theorem IsS125.own_neS {w0 W : World} {g : Nat} {f0 : List Int} {f1 : Int} {f2 : Int} {α : Type} {d : Kd α} {e : Nat} {base : Nat} {ok : Nat → Prop} {v : Value} {xs : List α} (h : IsS125 w0 W g f0 f1 f2) (ho : d.S e W base ok v xs) (ht : e ≠ 125) : some g ≠ v.ownBlock := by
  obtain ⟨A0, c0, hb, hg, hr0⟩ := h
  exact Kd.S_ne ho hb ht
theorem IsS125.lt {w0 W : World} {g : Nat} {f0 : List Int} {f1 : Int} {f2 : Int} (h : IsS125 w0 W g f0 f1 f2) : g < W.heap.size := by
  obtain ⟨A0, c0, hb, hg, hr0⟩ := h
  exact blk_lt hb
theorem IsS125.ge {w0 W : World} {g : Nat} {f0 : List Int} {f1 : Int} {f2 : Int} (h : IsS125 w0 W g f0 f1 f2) : w0.heap.size ≤ g := by
  obtain ⟨A0, c0, hb, hg, hr0⟩ := h
  exact hg
theorem IsS125.ne_blk {w0 W : World} {g : Nat} {f0 : List Int} {f1 : Int} {f2 : Int} {a : Nat} {cs : Array Value} {t : TypeId} {fr : Nat × Nat} (h : IsS125 w0 W g f0 f1 f2) (hb2 : W.heap[a]? = some (.cells cs t fr)) (ht : t ≠ 125) : g ≠ a := by
  obtain ⟨A0, c0, hb, hg, hr0⟩ := h
  rintro rfl
  rw [hb] at hb2
  injection hb2 with hb2
  injection hb2 with _ ht2
  exact ht ht2.symm
theorem IsS125.far {w0 W : World} {g : Nat} {f0 : List Int} {f1 : Int} {f2 : Int} {p : Addr} (h : IsS125 w0 W g f0 f1 f2) (hne : g ≠ p.block) (u : Value) : IsS125 w0 (W.setCell p u) g f0 f1 f2 := by
  obtain ⟨A0, c0, hb, hg, hr0⟩ := h
  exact ⟨A0, c0, blk_far hb hne u, hg, hr0⟩
theorem cellS125_0 {W : World} {g : Nat} {A0 : Option Addr} {c0 : Nat} {f0 : List Int} {f1 : Int} {f2 : Int} (h : W.heap[g]? = some (.cells #[.slice A0 f0.length c0, .int .i64 f1, .int .i64 f2] 125 (0, 0))) : W.cell? ⟨g, 0, none⟩ = some (.slice A0 f0.length c0) := (blk_cell h 0).trans rfl
theorem cellS125_1 {W : World} {g : Nat} {A0 : Option Addr} {c0 : Nat} {f0 : List Int} {f1 : Int} {f2 : Int} (h : W.heap[g]? = some (.cells #[.slice A0 f0.length c0, .int .i64 f1, .int .i64 f2] 125 (0, 0))) : W.cell? ⟨g, 1, none⟩ = some (.int .i64 f1) := (blk_cell h 1).trans rfl
theorem IsS125.set_1 {w0 W : World} {g : Nat} {f0 : List Int} {f1 : Int} {f2 : Int} (h : IsS125 w0 W g f0 f1 f2) (x : Int) : IsS125 w0 (W.setCell ⟨g, 1, none⟩ (.int .i64 x)) g f0 x f2 := by
  obtain ⟨A0, c0, hb, hg, hr0⟩ := h
  exact ⟨A0, c0, by simpa using blk_set hb 1 (.int .i64 x), hg, hr0⟩
theorem cellS125_2 {W : World} {g : Nat} {A0 : Option Addr} {c0 : Nat} {f0 : List Int} {f1 : Int} {f2 : Int} (h : W.heap[g]? = some (.cells #[.slice A0 f0.length c0, .int .i64 f1, .int .i64 f2] 125 (0, 0))) : W.cell? ⟨g, 2, none⟩ = some (.int .i64 f2) := (blk_cell h 2).trans rfl
theorem IsS125.set_2 {w0 W : World} {g : Nat} {f0 : List Int} {f1 : Int} {f2 : Int} (h : IsS125 w0 W g f0 f1 f2) (x : Int) : IsS125 w0 (W.setCell ⟨g, 2, none⟩ (.int .i64 x)) g f0 f1 x := by
  obtain ⟨A0, c0, hb, hg, hr0⟩ := h
  exact ⟨A0, c0, by simpa using blk_set hb 2 (.int .i64 x), hg, hr0⟩
theorem IsS125.new (w0 W : World) (A0 : Option Addr) (c0 : Nat) (f0 : List Int) (f1 : Int) (f2 : Int) (hB : Below w0.heap.size w0 W) (hr0 : Kd.C (Kd.int .u8) w0 A0 f0.length f0) : IsS125 w0 (W.alloc (.cells #[.slice A0 f0.length c0, .int .i64 f1, .int .i64 f2] 125)) W.heap.size f0 f1 f2 := ⟨A0, c0, by simpa using heap_alloc_new W _, hB.size, hr0⟩
def spec_l1New.l0 : Nat → List Int → Int → Int → Option (List Int × Int × Int)
  | 0, _, _, _ => none
  | k + 1, x0, x3, x4 => if x4 < (x0.length : Int) then (if x4 < 4000 then (if 0 ≤ x4 then (spec_l1New.l0 k x0 (Go.bits .and .i64 (wrap64 ((wrap64 ((wrap64 (x3 * 131)) + (wrap64 (rd x0 x4)))) + 7)) 1073741823) (wrap64 (x4 + 1))) else (none)) else (some (x0, 0, x3))) else (some (x0, 0, x3))
def spec_l1New.f (k : Nat) (l0 : List Int) : Option (List Int × Int × Int) := spec_l1New.l0 k l0 (wrap64 (26583 + (l0.length : Int))) 0
theorem spec_l1New.mono_l : ∀ k, (∀ y0 y1 y2, LeO (spec_l1New.l0 k y0 y1 y2) (spec_l1New.l0 (k + 1) y0 y1 y2))
  | 0 => fun _ _ _ r h => by simp [spec_l1New.l0] at h
  | k + 1 => by
    have ih0 := spec_l1New.mono_l k
    · intro y0 y1 y2
      unfold spec_l1New.l0
      repeat' first
      | (with_reducible exact ih0 _ _ _)
      | (with_reducible exact LeO.refl _)
      | (with_reducible exact LeO.none _)
      | (with_reducible refine LeO.ite ?_ ?_)
      | (with_reducible refine LeO.bind ?_ (fun _ => ?_))
      | exact ih0 _ _ _
      | exact LeO.none _
      | refine LeO.ite ?_ ?_
      | refine LeO.bind ?_ (fun _ => ?_)
theorem spec_l1New.mono : ∀ a0 k, LeO (spec_l1New.f k a0) (spec_l1New.f (k + 1) a0) := by
  intro a0 k
  have ih0 := spec_l1New.mono_l k
  unfold spec_l1New.f
  repeat' first
      | (with_reducible exact ih0 _ _ _)
      | (with_reducible exact LeO.refl _)
      | (with_reducible exact LeO.none _)
      | (with_reducible refine LeO.ite ?_ ?_)
      | (with_reducible refine LeO.bind ?_ (fun _ => ?_))
      | exact ih0 _ _ _
      | exact LeO.none _
      | refine LeO.ite ?_ ?_
      | refine LeO.bind ?_ (fun _ => ?_)
theorem zp34_0_ {p q : Prop} (h : p) (c : p → q := by intro h_; repeat (first | (with_reducible first | exact h_ | apply below_alloc | apply pw_below_drewN | apply below_drew1) | exact h_)) : q := c h
theorem zp34_1_ {p q g1 : Prop} (h : p) (h1 : g1) (c : p → g1 → q := by intro h_ h1_; repeat (first | (with_reducible first | exact h_ | apply below_alloc | apply pw_below_drewN | apply below_drew1 | refine below_set ?_ h1_) | exact h_)) : q := c h h1
theorem zp34_2_ {p q : Prop} (h : p) (c : p → q := by intro h_; repeat (first | (with_reducible first | exact h_ | apply IsS125.alloc | apply IsS125.drewN | apply IsS125.drew | apply IsS125.set_1 | apply IsS125.set_2) | exact h_)) : q := c h
theorem zp34_3_ {p q : Prop} (h : p) (c : p → q := by intro h_; repeat (first | (with_reducible first | exact h_ | apply KeepBut.set_ | apply keep_drewN | apply keep_drew | apply keep_alloc) | exact h_)) : q := c h
set_option maxHeartbeats 8000000 in
set_option maxRecDepth 100000 in
theorem spec_l1New.calls (k : Nat) (A0 : Option Addr) (c0 : Nat) (l0 : List Int) (r1 : List Int) (r2 : Int) (r3 : Int) (w0 w : World) (hB : Below w0.heap.size w0 w) (hr0 : Kd.C (Kd.int .u8) w0 A0 l0.length l0) (hc0 : l0.length ≤ c0) (h : spec_l1New.f k l0 = some (r1, r2, r3)) :
    Calls Try.prog 85 #[.slice A0 l0.length c0] w fun e w' => ∃ g_ : Nat, e = .returned (.pointer (some ⟨g_, 0, none⟩)) ∧ IsS125 w0 w' g_ r1 r2 r3 ∧ Below w0.heap.size w0 w' ∧ Below w.heap.size w w' := by
  have hu125 := Try.underlying125
  have HR0 := am_ hr0
  have HC0 := am_ hc0
  clear hr0 hc0
  have HBW := am_ (Below.refl w.heap.size w)
  have HW0 := am_ hB.size
  have HB := am_ hB
  clear hB
  have H : (spec_l1New.l0 k l0 (wrap64 (26583 + (l0.length : Int))) 0) = some (r1, r2, r3) := h
  clear h
  have H' := am_ H
  clear H
  go_enter Try.func85, Try.ntmps85
  go_wp2
  go_loopg [3, 4] k (fun kq v3 v4 w' => ∃ (ad : Int) (aa : Int), v3 = .int .i64 ad ∧ v4 = .int .i64 aa ∧ Aside0 (spec_l1New.l0 kq l0 ad aa = some (r1, r2, r3)) ∧ Aside0 (kq ≤ k) ∧ Aside0 (Below w0.heap.size w0 w') ∧ Aside0 (Below w.heap.size w w'))
  case atStart => exact ⟨(wrap64 (26583 + (l0.length : Int))), (0), (by first | rfl | (simp; done) | (simp [*]; done)), (by first | rfl | (simp; done) | (simp [*]; done)), H', ⟨Nat.le_refl _⟩, ⟨by exact zp34_0_ HB.out⟩, ⟨by exact zp34_0_ HBW.out⟩⟩
  case round =>
    clear H'
    obtain ⟨ad, aa, rfl, rfl, HA, HK1, HB, HBW⟩ := hrel
    cases gk with
    | zero => exact absurd HA.out (by simp [spec_l1New.l0])
    | succ k1 =>
      have H := HA.out
      clear HA
      simp only [spec_l1New.l0] at H
      by_cases c2 : aa < (l0.length : Int)
      · rw [if_pos c2] at H
        have c2b0 : decide (aa < (l0.length : Int)) = true := decide_eq_true c2
        clear c2
        by_cases c3 : aa < 4000
        · rw [if_pos c3] at H
          have c3b0 : decide (aa < 4000) = true := decide_eq_true c3
          clear c3
          by_cases c4 : 0 ≤ aa
          · rw [if_pos c4] at H
            have c4b0 : decide (0 ≤ aa) = true := decide_eq_true c4
            clear c4
            have H' := am_ H
            clear H
            have p524 : 0 ≤ (aa : Int) := of_decide_eq_true ah_
            have q524 : aa < (l0.length : Int) := of_decide_eq_true ah_
            obtain ⟨aU, e524, ag⟩ := Kd.at_int HR0.out aa p524 q524
            cases e524
            replace ag := pw_cell_below HB.out ag
            replace p524 := eq_true p524
            replace q524 := eq_true q524
            go_wp2
            go_roundg k1
            case measure => have := HK1.out; omega
            case rel => exact ⟨(Go.bits .and .i64 (wrap64 ((wrap64 ((wrap64 (ad * 131)) + (wrap64 (rd l0 aa)))) + 7)) 1073741823), (wrap64 (aa + 1)), (by first | rfl | (simp; done) | (simp [*]; done)), (by first | rfl | (simp; done) | (simp [*]; done)), H', ⟨by have := HK1.out; omega⟩, ⟨by exact zp34_0_ HB.out⟩, ⟨by exact zp34_0_ HBW.out⟩⟩
          · rw [if_neg c4] at H
            exact absurd H (by simp)
        · rw [if_neg c3] at H
          have c3b0 : decide (aa < 4000) = false := decide_eq_false c3
          clear c3
          simp only [Option.some.injEq, Prod.mk.injEq] at H
          obtain ⟨rfl, rfl, rfl⟩ := H
          go_wp2_with (first | ((with_reducible refine gate_dst (N := 31) rfl ?_); refine box_event ?hg (N := 31) ?hd (cs := #[.slice A0 l0.length c0, .int .i64 0, .int .i64 ad]) (t := 125) ?hr ?_; (case hd => rfl); (case hg => rfl); (case hr => first | (go_simp; done) | (go_simp; rfl)); intro ae hg w5 hbox hb; have n0_ := am_ (below_step HBW.out hb); have n1_ := am_ (below_step (b0_ HB.out) hb); have n2_ := am_ (hbox); have n3_ := am_ ((by rw [hg]; exact (below_size (b0_ HBW.out)) : w.heap.size ≤ ae)); have n4_ := am_ ((Nat.le_trans HW0.out (by rw [hg]; exact (below_size (b0_ HBW.out)) : w.heap.size ≤ ae) : w0.heap.size ≤ ae)); clear HBW; clear HB; have HBW := n0_; have HB := n1_; have aw := n2_; have ax := n3_; have ah := n4_; clear n0_ n1_ n2_ n3_ n4_; clear hb hbox hg))
          go_ret
          exact ⟨_, rfl, (show IsS125 w0 _ ae l0 0 ad from ⟨_, _, by refine rb_ ?_; exact aw.out, ah.out, HR0.out⟩), by exact zp34_1_ HB.out ah.out, by exact zp34_1_ HBW.out ax.out⟩
      · rw [if_neg c2] at H
        have c2b0 : decide (aa < (l0.length : Int)) = false := decide_eq_false c2
        clear c2
        simp only [Option.some.injEq, Prod.mk.injEq] at H
        obtain ⟨rfl, rfl, rfl⟩ := H
        go_wp2_with (first | ((with_reducible refine gate_dst (N := 31) rfl ?_); refine box_event ?hg (N := 31) ?hd (cs := #[.slice A0 l0.length c0, .int .i64 0, .int .i64 ad]) (t := 125) ?hr ?_; (case hd => rfl); (case hg => rfl); (case hr => first | (go_simp; done) | (go_simp; rfl)); intro af hg w6 hbox hb; have n0_ := am_ (below_step HBW.out hb); have n1_ := am_ (below_step (b0_ HB.out) hb); have n2_ := am_ (hbox); have n3_ := am_ ((by rw [hg]; exact (below_size (b0_ HBW.out)) : w.heap.size ≤ af)); have n4_ := am_ ((Nat.le_trans HW0.out (by rw [hg]; exact (below_size (b0_ HBW.out)) : w.heap.size ≤ af) : w0.heap.size ≤ af)); clear HBW; clear HB; have HBW := n0_; have HB := n1_; have ay := n2_; have az := n3_; have ai := n4_; clear n0_ n1_ n2_ n3_ n4_; clear hb hbox hg))
        go_ret
        exact ⟨_, rfl, (show IsS125 w0 _ af l0 0 ad from ⟨_, _, by refine rb_ ?_; exact ay.out, ai.out, HR0.out⟩), by exact zp34_1_ HB.out ai.out, by exact zp34_1_ HBW.out az.out⟩
def spec_l1Byte.f (s0_0 : List Int) (s0_1 : Int) (s0_2 : Int) : Option (Int × Int × Int) := if s0_1 < (s0_0.length : Int) then (if 0 ≤ s0_1 then (some (Go.bits .and .i64 (wrap64 ((Go.bits .and .i64 (Go.bits .xor .i64 ((wrap64 ((wrap64 (s0_2 * 6364136223846793005)) + 1442695040888963407)) / 8589934592) ((wrap64 ((wrap64 (s0_2 * 6364136223846793005)) + 1442695040888963407)) / 35184372088832)) 255) + (wrap64 (rd s0_0 s0_1)))) 255, wrap64 (s0_1 + 1), wrap64 ((wrap64 (s0_2 * 6364136223846793005)) + 1442695040888963407))) else (none)) else (some (Go.bits .and .i64 (Go.bits .xor .i64 ((wrap64 ((wrap64 (s0_2 * 6364136223846793005)) + 1442695040888963407)) / 8589934592) ((wrap64 ((wrap64 (s0_2 * 6364136223846793005)) + 1442695040888963407)) / 35184372088832)) 255, s0_1, wrap64 ((wrap64 (s0_2 * 6364136223846793005)) + 1442695040888963407)))
set_option maxHeartbeats 8000000 in
set_option maxRecDepth 100000 in
theorem spec_l1Byte.calls (g : Nat) (s0_0 : List Int) (s0_1 : Int) (s0_2 : Int) (r1 : Int) (r2 : Int) (r3 : Int) (w0 w : World) (hI : IsS125 w0 w g s0_0 s0_1 s0_2) (hB : Below w0.heap.size w0 w) (h : spec_l1Byte.f s0_0 s0_1 s0_2 = some (r1, r2, r3)) :
    Calls Try.prog 129 #[.pointer (some ⟨g, 0, none⟩)] w fun e w' => e = .returned (.int .i64 r1) ∧ IsS125 w0 w' g s0_0 r2 r3 ∧ Below w0.heap.size w0 w' ∧ KeepBut w w' g none := by
  have HI0 := am_ hI
  have HK := am_ (KeepBut.refl w g none)
  have HL := am_ hB.size
  clear hI
  have HW0 := am_ hB.size
  have HB := am_ hB
  clear hB
  have H : (if s0_1 < (s0_0.length : Int) then (if 0 ≤ s0_1 then (some (Go.bits .and .i64 (wrap64 ((Go.bits .and .i64 (Go.bits .xor .i64 ((wrap64 ((wrap64 (s0_2 * 6364136223846793005)) + 1442695040888963407)) / 8589934592) ((wrap64 ((wrap64 (s0_2 * 6364136223846793005)) + 1442695040888963407)) / 35184372088832)) 255) + (wrap64 (rd s0_0 s0_1)))) 255, wrap64 (s0_1 + 1), wrap64 ((wrap64 (s0_2 * 6364136223846793005)) + 1442695040888963407))) else (none)) else (some (Go.bits .and .i64 (Go.bits .xor .i64 ((wrap64 ((wrap64 (s0_2 * 6364136223846793005)) + 1442695040888963407)) / 8589934592) ((wrap64 ((wrap64 (s0_2 * 6364136223846793005)) + 1442695040888963407)) / 35184372088832)) 255, s0_1, wrap64 ((wrap64 (s0_2 * 6364136223846793005)) + 1442695040888963407)))) = some (r1, r2, r3) := h
  clear h
  by_cases c2 : s0_1 < (s0_0.length : Int)
  · rw [if_pos c2] at H
    have c2b0 : decide (s0_1 < (s0_0.length : Int)) = true := decide_eq_true c2
    clear c2
    by_cases c3 : 0 ≤ s0_1
    · rw [if_pos c3] at H
      have c3b0 : decide (0 ≤ s0_1) = true := decide_eq_true c3
      clear c3
      simp only [Option.some.injEq, Prod.mk.injEq] at H
      obtain ⟨rfl, rfl, rfl⟩ := H
      obtain ⟨ASz4_0, cSz4_0, HGz4, hgz4, HSz4_0⟩ := HI0.out
      have aK := cellS125_0 HGz4
      have aL := cellS125_1 HGz4
      have aM := cellS125_2 HGz4
      have aN := blk_frozen HGz4 1
      have aO := blk_frozen HGz4 2
      clear HGz4 hgz4
      have p527 : 0 ≤ (s0_1 : Int) := of_decide_eq_true ah_
      have q527 : s0_1 < (s0_0.length : Int) := of_decide_eq_true ah_
      obtain ⟨aA, e527, ab⟩ := Kd.at_int HSz4_0 s0_1 p527 q527
      cases e527
      have hn527_0 : aA.block ≠ g := Nat.ne_of_lt (Nat.lt_of_lt_of_le (by have := World.block_lt_of_cell? _ _ ab; first | rwa [add_block] at this | exact this) (IsS125.ge HI0.out))
      replace ab := pw_cell_below HB.out ab
      replace ab := (cell_far (p := ⟨g, 2, none⟩) (by first | (rw [add_block]; exact hn527_0) | (show (Addr.add _ _).block ≠ _; rw [add_block]; exact hn527_0) | exact hn527_0) (.int .i64 (wrap64 ((wrap64 (s0_2 * 6364136223846793005)) + 1442695040888963407)))).trans ab
      (try have hy527_0 := fun (n_ : Nat) => (show (((w.drewN n_).setCell ⟨g, 2, none⟩ (.int .i64 (wrap64 ((wrap64 (s0_2 * 6364136223846793005)) + 1442695040888963407))))).cell? _ = some _ from ab))
      clear hn527_0
      replace p527 := eq_true p527
      replace q527 := eq_true q527
      go_enter Try.func129, Try.ntmps129
      go_wp2
      repeat (go_quiet (fail); try go_wp2)
      go_ret
      exact ⟨by first | rfl | (simp [errW_none, errW_some] <;> rfl) | (simp [*, errW_none, errW_some] <;> rfl), by exact zp34_2_ HI0.out, by exact zp34_1_ HB.out (IsS125.ge HI0.out), by exact zp34_3_ HK.out⟩
    · rw [if_neg c3] at H
      exact absurd H (by simp)
  · rw [if_neg c2] at H
    have c2b0 : decide (s0_1 < (s0_0.length : Int)) = false := decide_eq_false c2
    clear c2
    simp only [Option.some.injEq, Prod.mk.injEq] at H
    obtain ⟨rfl, rfl, rfl⟩ := H
    obtain ⟨ASz5_0, cSz5_0, HGz5, hgz5, HSz5_0⟩ := HI0.out
    have aP := cellS125_0 HGz5
    have aQ := cellS125_1 HGz5
    have aR := cellS125_2 HGz5
    have aS := blk_frozen HGz5 1
    have aT := blk_frozen HGz5 2
    clear HGz5 hgz5
    go_enter Try.func129, Try.ntmps129
    go_wp2
    repeat (go_quiet (fail); try go_wp2)
    go_ret
    exact ⟨by first | rfl | (simp [errW_none, errW_some] <;> rfl) | (simp [*, errW_none, errW_some] <;> rfl), by exact zp34_2_ HI0.out, by exact zp34_1_ HB.out (IsS125.ge HI0.out), by exact zp34_3_ HK.out⟩
def spec_l1Below.f (s0_0 : List Int) (s0_1 : Int) (s0_2 : Int) (a1 : Int) : Option (Int × Int × Int) := if a1 ≤ 0 then (some (0, s0_1, s0_2)) else (if a1 ≤ 256 then ((spec_l1Byte.f s0_0 s0_1 s0_2).bind fun bt528 => (if a1 = 0 then (none) else (some (Int.tmod bt528.1 a1, bt528.2.1, bt528.2.2)))) else ((spec_l1Byte.f s0_0 s0_1 s0_2).bind fun bt531 => ((spec_l1Byte.f s0_0 bt531.2.1 bt531.2.2).bind fun bt534 => ((spec_l1Byte.f s0_0 bt534.2.1 bt534.2.2).bind fun bt537 => ((spec_l1Byte.f s0_0 bt537.2.1 bt537.2.2).bind fun bt540 => (if a1 = 0 then (none) else (some (Int.tmod (wrap64 ((wrap64 ((wrap64 ((wrap64 (bt531.1 * 16777216)) + (wrap64 (bt534.1 * 65536)))) + (wrap64 (bt537.1 * 256)))) + bt540.1)) a1, bt540.2.1, bt540.2.2))))))))
set_option maxHeartbeats 8000000 in
set_option maxRecDepth 100000 in
theorem spec_l1Below.calls (g : Nat) (s0_0 : List Int) (s0_1 : Int) (s0_2 : Int) (a1 : Int) (r1 : Int) (r2 : Int) (r3 : Int) (w0 w : World) (hI : IsS125 w0 w g s0_0 s0_1 s0_2) (hB : Below w0.heap.size w0 w) (h : spec_l1Below.f s0_0 s0_1 s0_2 a1 = some (r1, r2, r3)) :
    Calls Try.prog 107 #[.pointer (some ⟨g, 0, none⟩), .int .i64 a1] w fun e w' => e = .returned (.int .i64 r1) ∧ IsS125 w0 w' g s0_0 r2 r3 ∧ Below w0.heap.size w0 w' ∧ KeepBut w w' g none := by
  have HI0 := am_ hI
  have HK := am_ (KeepBut.refl w g none)
  have HL := am_ hB.size
  clear hI
  have HW0 := am_ hB.size
  have HB := am_ hB
  clear hB
  have H : (if a1 ≤ 0 then (some (0, s0_1, s0_2)) else (if a1 ≤ 256 then ((spec_l1Byte.f s0_0 s0_1 s0_2).bind fun bt528 => (if a1 = 0 then (none) else (some (Int.tmod bt528.1 a1, bt528.2.1, bt528.2.2)))) else ((spec_l1Byte.f s0_0 s0_1 s0_2).bind fun bt531 => ((spec_l1Byte.f s0_0 bt531.2.1 bt531.2.2).bind fun bt534 => ((spec_l1Byte.f s0_0 bt534.2.1 bt534.2.2).bind fun bt537 => ((spec_l1Byte.f s0_0 bt537.2.1 bt537.2.2).bind fun bt540 => (if a1 = 0 then (none) else (some (Int.tmod (wrap64 ((wrap64 ((wrap64 ((wrap64 (bt531.1 * 16777216)) + (wrap64 (bt534.1 * 65536)))) + (wrap64 (bt537.1 * 256)))) + bt540.1)) a1, bt540.2.1, bt540.2.2))))))))) = some (r1, r2, r3) := h
  clear h
  by_cases c3 : a1 ≤ 0
  · rw [if_pos c3] at H
    have c3b0 : decide (a1 ≤ 0) = true := decide_eq_true c3
    clear c3
    simp only [Option.some.injEq, Prod.mk.injEq] at H
    obtain ⟨rfl, rfl, rfl⟩ := H
    go_enter Try.func107, Try.ntmps107
    go_wp2
    go_ret
    exact ⟨by first | rfl | (simp [errW_none, errW_some] <;> rfl) | (simp [*, errW_none, errW_some] <;> rfl), by exact zp34_2_ HI0.out, by exact zp34_1_ HB.out (IsS125.ge HI0.out), by exact zp34_3_ HK.out⟩
  · rw [if_neg c3] at H
    have c3b0 : decide (a1 ≤ 0) = false := decide_eq_false c3
    clear c3
    by_cases c4 : a1 ≤ 256
    · rw [if_pos c4] at H
      have c4b0 : decide (a1 ≤ 256) = true := decide_eq_true c4
      clear c4
      replace H := Option.bind_eq_some_iff.mp H
      obtain ⟨⟨aB, aC, aD⟩, A50, H⟩ := H
      have A5 := am_ A50
      clear A50
      by_cases c6 : a1 = 0
      · rw [if_pos c6] at H
        exact absurd H (by simp)
      · rw [if_neg c6] at H
        have c6b0 : (a1 == 0) = false := beq_eq_false_iff_ne.mpr c6
        have c6b1 : (a1 != 0) = true := bne_iff_ne.mpr c6
        simp only [Option.some.injEq, Prod.mk.injEq] at H
        obtain ⟨rfl, rfl, rfl⟩ := H
        go_enter Try.func107, Try.ntmps107
        go_wp2_with (first | ((with_reducible refine gate_callee (f := 129) rfl ?_); refine gL_ (some 14) Try.func129 #[.pointer (some ⟨g, 0, none⟩)] ?_; (with_reducible refine (spec_l1Byte.calls g s0_0 s0_1 s0_2 aB aC aD w0 _ ?side1 ?side2 A5.out).mono ?_); (case side1 => exact zp34_2_ HI0.out); (case side2 => exact zp34_1_ HB.out (IsS125.ge HI0.out)); rintro e w7 ⟨rfl, hi, hb, hk⟩; refine ⟨_, rfl, ?_⟩; have n0_ := am_ (KeepBut.trans (k0_ HK.out) hk (.inl rfl)); have n1_ := am_ (hb); have n2_ := am_ (hi); clear HK; clear HB; clear HI0; have HK := n0_; have HB := n1_; have HI0 := n2_; clear n0_ n1_ n2_; (try clear hb); (try clear hb2); (try clear hk); (try clear hi)))
        go_ret
        exact ⟨by first | rfl | (simp [errW_none, errW_some] <;> rfl) | (simp [*, errW_none, errW_some] <;> rfl), by exact zp34_2_ HI0.out, by exact zp34_1_ HB.out (IsS125.ge HI0.out), by exact zp34_3_ HK.out⟩
    · rw [if_neg c4] at H
      have c4b0 : decide (a1 ≤ 256) = false := decide_eq_false c4
      clear c4
      replace H := Option.bind_eq_some_iff.mp H
      obtain ⟨⟨aE, aj, ak⟩, A80, H⟩ := H
      have A8 := am_ A80
      clear A80
      replace H := Option.bind_eq_some_iff.mp H
      obtain ⟨⟨aF, al, am⟩, A90, H⟩ := H
      have A9 := am_ A90
      clear A90
      replace H := Option.bind_eq_some_iff.mp H
      obtain ⟨⟨aG, an, ao⟩, ap, H⟩ := H
      have A10 := am_ ap
      clear ap
      replace H := Option.bind_eq_some_iff.mp H
      obtain ⟨⟨aH, aI, aJ⟩, aq, H⟩ := H
      have A11 := am_ aq
      clear aq
      by_cases c12 : a1 = 0
      · rw [if_pos c12] at H
        exact absurd H (by simp)
      · rw [if_neg c12] at H
        have c12b0 : (a1 == 0) = false := beq_eq_false_iff_ne.mpr c12
        have c12b1 : (a1 != 0) = true := bne_iff_ne.mpr c12
        simp only [Option.some.injEq, Prod.mk.injEq] at H
        obtain ⟨rfl, rfl, rfl⟩ := H
        go_enter Try.func107, Try.ntmps107
        go_wp2_with (first | ((with_reducible refine gate_callee (f := 129) rfl ?_); refine gL_ (some 18) Try.func129 #[.pointer (some ⟨g, 0, none⟩)] ?_; (with_reducible refine (spec_l1Byte.calls g s0_0 s0_1 s0_2 aE aj ak w0 _ ?side1 ?side2 A8.out).mono ?_); (case side1 => exact zp34_2_ HI0.out); (case side2 => exact zp34_1_ HB.out (IsS125.ge HI0.out)); rintro e w13 ⟨rfl, hi, hb, hk⟩; refine ⟨_, rfl, ?_⟩; have n0_ := am_ (KeepBut.trans (k0_ HK.out) hk (.inl rfl)); have n1_ := am_ (hb); have n2_ := am_ (hi); clear HK; clear HB; clear HI0; have HK := n0_; have HB := n1_; have HI0 := n2_; clear n0_ n1_ n2_; (try clear hb); (try clear hb2); (try clear hk); (try clear hi)) | ((with_reducible refine gate_callee (f := 129) rfl ?_); refine gL_ (some 20) Try.func129 #[.pointer (some ⟨g, 0, none⟩)] ?_; (with_reducible refine (spec_l1Byte.calls g s0_0 aj ak aF al am w0 _ ?side1 ?side2 A9.out).mono ?_); (case side1 => exact zp34_2_ HI0.out); (case side2 => exact zp34_1_ HB.out (IsS125.ge HI0.out)); rintro e w14 ⟨rfl, hi, hb, hk⟩; refine ⟨_, rfl, ?_⟩; have n0_ := am_ (KeepBut.trans (k0_ HK.out) hk (.inl rfl)); have n1_ := am_ (hb); have n2_ := am_ (hi); clear HK; clear HB; clear HI0; have HK := n0_; have HB := n1_; have HI0 := n2_; clear n0_ n1_ n2_; (try clear hb); (try clear hb2); (try clear hk); (try clear hi)) | ((with_reducible refine gate_callee (f := 129) rfl ?_); refine gL_ (some 22) Try.func129 #[.pointer (some ⟨g, 0, none⟩)] ?_; (with_reducible refine (spec_l1Byte.calls g s0_0 al am aG an ao w0 _ ?side1 ?side2 A10.out).mono ?_); (case side1 => exact zp34_2_ HI0.out); (case side2 => exact zp34_1_ HB.out (IsS125.ge HI0.out)); rintro e w15 ⟨rfl, hi, hb, hk⟩; refine ⟨_, rfl, ?_⟩; have n0_ := am_ (KeepBut.trans (k0_ HK.out) hk (.inl rfl)); have n1_ := am_ (hb); have n2_ := am_ (hi); clear HK; clear HB; clear HI0; have HK := n0_; have HB := n1_; have HI0 := n2_; clear n0_ n1_ n2_; (try clear hb); (try clear hb2); (try clear hk); (try clear hi)) | ((with_reducible refine gate_callee (f := 129) rfl ?_); refine gL_ (some 24) Try.func129 #[.pointer (some ⟨g, 0, none⟩)] ?_; (with_reducible refine (spec_l1Byte.calls g s0_0 an ao aH aI aJ w0 _ ?side1 ?side2 A11.out).mono ?_); (case side1 => exact zp34_2_ HI0.out); (case side2 => exact zp34_1_ HB.out (IsS125.ge HI0.out)); rintro e w16 ⟨rfl, hi, hb, hk⟩; refine ⟨_, rfl, ?_⟩; have n0_ := am_ (KeepBut.trans (k0_ HK.out) hk (.inl rfl)); have n1_ := am_ (hb); have n2_ := am_ (hi); clear HK; clear HB; clear HI0; have HK := n0_; have HB := n1_; have HI0 := n2_; clear n0_ n1_ n2_; (try clear hb); (try clear hb2); (try clear hk); (try clear hi)))
        go_ret
        exact ⟨by first | rfl | (simp [errW_none, errW_some] <;> rfl) | (simp [*, errW_none, errW_some] <;> rfl), by exact zp34_2_ HI0.out, by exact zp34_1_ HB.out (IsS125.ge HI0.out), by exact zp34_3_ HK.out⟩
def spec_l1Once.f (s0_0 : List Int) (s0_1 : Int) (s0_2 : Int) (a1 : Int) : Option (Bool × Int × Int) := (spec_l1Below.f s0_0 s0_1 s0_2 a1).bind fun bt543 => (some ((bt543.1 == 0), bt543.2.1, bt543.2.2))
set_option maxHeartbeats 8000000 in
set_option maxRecDepth 100000 in
theorem spec_l1Once.calls (g : Nat) (s0_0 : List Int) (s0_1 : Int) (s0_2 : Int) (a1 : Int) (r1 : Bool) (r2 : Int) (r3 : Int) (w0 w : World) (hI : IsS125 w0 w g s0_0 s0_1 s0_2) (hB : Below w0.heap.size w0 w) (h : spec_l1Once.f s0_0 s0_1 s0_2 a1 = some (r1, r2, r3)) :
    Calls Try.prog 87 #[.pointer (some ⟨g, 0, none⟩), .int .i64 a1] w fun e w' => e = .returned (.bool r1) ∧ IsS125 w0 w' g s0_0 r2 r3 ∧ Below w0.heap.size w0 w' ∧ KeepBut w w' g none := by
  have HI0 := am_ hI
  have HK := am_ (KeepBut.refl w g none)
  have HL := am_ hB.size
  clear hI
  have HW0 := am_ hB.size
  have HB := am_ hB
  clear hB
  have H : ((spec_l1Below.f s0_0 s0_1 s0_2 a1).bind fun bt543 => (some ((bt543.1 == 0), bt543.2.1, bt543.2.2))) = some (r1, r2, r3) := h
  clear h
  replace H := Option.bind_eq_some_iff.mp H
  obtain ⟨⟨ar, au, av⟩, A30, H⟩ := H
  replace H : (some ((ar == 0), au, av)) = some (r1, r2, r3) := H
  have A3 := am_ A30
  clear A30
  simp only [Option.some.injEq, Prod.mk.injEq] at H
  obtain ⟨rfl, rfl, rfl⟩ := H
  go_enter Try.func87, Try.ntmps87
  go_wp2_with (first | ((with_reducible refine gate_callee (f := 107) rfl ?_); refine gL_ (some 7) Try.func107 #[.pointer (some ⟨g, 0, none⟩), .int .i64 a1] ?_; (with_reducible refine (spec_l1Below.calls g s0_0 s0_1 s0_2 a1 ar au av w0 _ ?side1 ?side2 A3.out).mono ?_); (case side1 => exact zp34_2_ HI0.out); (case side2 => exact zp34_1_ HB.out (IsS125.ge HI0.out)); rintro e w4 ⟨rfl, hi, hb, hk⟩; refine ⟨_, rfl, ?_⟩; have n0_ := am_ (KeepBut.trans (k0_ HK.out) hk (.inl rfl)); have n1_ := am_ (hb); have n2_ := am_ (hi); clear HK; clear HB; clear HI0; have HK := n0_; have HB := n1_; have HI0 := n2_; clear n0_ n1_ n2_; (try clear hb); (try clear hb2); (try clear hk); (try clear hi)))
  go_ret
  exact ⟨by first | rfl | (simp [errW_none, errW_some] <;> rfl) | (simp [*, errW_none, errW_some] <;> rfl), by exact zp34_2_ HI0.out, by exact zp34_1_ HB.out (IsS125.ge HI0.out), by exact zp34_3_ HK.out⟩
end Go.Proofs.Ytogamkblkoobkaa.P
end
section
namespace Go.Proofs.Ytogamkblkoobkaa.P
open Go.RowKit Go.Proofs.YtogamkblkoobkaaW.PrintWords Go.Proofs.YtogamkblkoobkaaW.PrintLast Go.Proofs.YtogamkblkoobkaaW.PrintMore
attribute [local go_sem] max2_int min2_int max_two min_two max_three min_three max_four min_four
set_option linter.unusedVariables false
set_option linter.unusedSimpArgs false
def spec_l1PickInt.f (s0_0 : List Int) (s0_1 : Int) (s0_2 : Int) (l1 : List Int) : Option (Int × Int × Int) := (spec_l1Below.f s0_0 s0_1 s0_2 (l1.length : Int)).bind fun bt799 => (if 0 ≤ bt799.1 then (if bt799.1 < (l1.length : Int) then (some (rd l1 bt799.1, bt799.2.1, bt799.2.2)) else (none)) else (none))
set_option maxHeartbeats 8000000 in
set_option maxRecDepth 100000 in
theorem spec_l1PickInt.calls (g : Nat) (s0_0 : List Int) (s0_1 : Int) (s0_2 : Int) (A1 : Option Addr) (c1 : Nat) (l1 : List Int) (r1 : Int) (r2 : Int) (r3 : Int) (w0 w : World) (hI : IsS125 w0 w g s0_0 s0_1 s0_2) (hB : Below w0.heap.size w0 w) (hr1 : Kd.C (Kd.int .i64) w A1 l1.length l1) (hc1 : l1.length ≤ c1) (hf1 : ∀ ad, A1 = some ad → 0 < l1.length → ad.block ≠ g) (h : spec_l1PickInt.f s0_0 s0_1 s0_2 l1 = some (r1, r2, r3)) :
    Calls Try.prog 100 #[.pointer (some ⟨g, 0, none⟩), .slice A1 l1.length c1] w fun e w' => e = .returned (.int .i64 r1) ∧ IsS125 w0 w' g s0_0 r2 r3 ∧ Below w0.heap.size w0 w' ∧ KeepBut w w' g none := by
  have HR1 := am_ hr1
  have HC1 := am_ hc1
  clear hr1 hc1
  have HI0 := am_ hI
  have HK := am_ (KeepBut.refl w g none)
  have HL := am_ hB.size
  clear hI
  have HW0 := am_ hB.size
  have HB := am_ hB
  clear hB
  have H : ((spec_l1Below.f s0_0 s0_1 s0_2 (l1.length : Int)).bind fun bt799 => (if 0 ≤ bt799.1 then (if bt799.1 < (l1.length : Int) then (some (rd l1 bt799.1, bt799.2.1, bt799.2.2)) else (none)) else (none))) = some (r1, r2, r3) := h
  clear h
  replace H := Option.bind_eq_some_iff.mp H
  obtain ⟨⟨aa, af, ag⟩, A30, H⟩ := H
  have A3 := am_ A30
  clear A30
  by_cases c4 : 0 ≤ aa
  · rw [if_pos c4] at H
    have c4b0 : decide (0 ≤ aa) = true := decide_eq_true c4
    clear c4
    by_cases c5 : aa < (l1.length : Int)
    · rw [if_pos c5] at H
      have c5b0 : decide (aa < (l1.length : Int)) = true := decide_eq_true c5
      clear c5
      simp only [Option.some.injEq, Prod.mk.injEq] at H
      obtain ⟨rfl, rfl, rfl⟩ := H
      go_enter Try.func100, Try.ntmps100
      go_wp2_with (first | ((with_reducible refine gate_callee (f := 107) rfl ?_); refine gL_ (some 9) Try.func107 #[.pointer (some ⟨g, 0, none⟩), .int .i64 (l1.length : Int)] ?_; (with_reducible refine (spec_l1Below.calls g s0_0 s0_1 s0_2 (l1.length : Int) aa af ag w0 _ ?side1 ?side2 A3.out).mono ?_); (case side1 => repeat (first | (with_reducible first | exact HI0.out | apply IsS125.alloc | apply IsS125.drewN | apply IsS125.drew | apply IsS125.set_1 | apply IsS125.set_2) | exact HI0.out)); (case side2 => repeat (first | (with_reducible first | exact HB.out | apply below_alloc | apply pw_below_drewN | apply below_drew1 | refine below_set ?_ (IsS125.ge HI0.out)) | exact HB.out)); rintro e w6 ⟨rfl, hi, hb, hk⟩; refine ⟨_, rfl, ?_⟩; have n0_ := am_ (KeepBut.trans (k0_ HK.out) hk (.inl rfl)); have n1_ := am_ (hb); have n2_ := am_ (hi); clear HK; clear HB; clear HI0; have HK := n0_; have HB := n1_; have HI0 := n2_; clear n0_ n1_ n2_; (try clear hb); (try clear hb2); (try clear hk); (try clear hi); have p802 : 0 ≤ (aa : Int) := of_decide_eq_true ah_; have q802 : aa < (l1.length : Int) := of_decide_eq_true ah_; obtain ⟨ae, e802, ab⟩ := Kd.at_int HR1.out aa p802 q802; cases e802; replace ab := keep_cell HK.out ab (by first | (rw [add_block]; exact hf1 _ rfl (by omega)) | exact hf1 _ rfl (by omega) | exact hf1 ae rfl (by omega)); replace p802 := eq_true p802; replace q802 := eq_true q802))
      go_ret
      exact ⟨by first | rfl | (simp [errW_none, errW_some] <;> rfl) | (simp [*, errW_none, errW_some] <;> rfl), by repeat (first | (with_reducible first | exact HI0.out | apply IsS125.alloc | apply IsS125.drewN | apply IsS125.drew | apply IsS125.set_1 | apply IsS125.set_2) | exact HI0.out), by repeat (first | (with_reducible first | exact HB.out | apply below_alloc | apply pw_below_drewN | apply below_drew1 | refine below_set ?_ (IsS125.ge HI0.out)) | exact HB.out), by repeat (first | (with_reducible first | exact HK.out | apply KeepBut.set_ | apply keep_drewN | apply keep_drew | apply keep_alloc) | exact HK.out)⟩
    · rw [if_neg c5] at H
      exact absurd H (by simp)
  · rw [if_neg c4] at H
    exact absurd H (by simp)
end Go.Proofs.Ytogamkblkoobkaa.P
end
section
namespace Go.Proofs.Ytogamkblkoobkaa.P
open Go.RowKit Go.Proofs.YtogamkblkoobkaaW.PrintWords Go.Proofs.YtogamkblkoobkaaW.PrintLast Go.Proofs.YtogamkblkoobkaaW.PrintMore
attribute [local go_sem] max2_int min2_int max_two min_two max_three min_three max_four min_four
set_option linter.unusedVariables false
set_option linter.unusedSimpArgs false
mutual
def spec_WordsOfLength.l0 : Nat → Int → List ByteArray → Int → Option (List ByteArray)
  | 0, _, _, _ => none
  | k + 1, x0, x3, x4 => if x4 < x0 then (spec_WordsOfLength.l1 k x0 x3 x4 (([] : List ByteArray)) 0) else (some x3)
def spec_WordsOfLength.l1 : Nat → Int → List ByteArray → Int → List ByteArray → Int → Option (List ByteArray)
  | 0, _, _, _, _, _ => none
  | k + 1, x0, x3, x4, x5, x6 => if x6 < (x3.length : Int) then (spec_WordsOfLength.l2 k x0 x3 x4 x5 x6 0) else (spec_WordsOfLength.l0 k x0 x5 (wrap64 (x4 + 1)))
def spec_WordsOfLength.l2 : Nat → Int → List ByteArray → Int → List ByteArray → Int → Int → Option (List ByteArray)
  | 0, _, _, _, _, _, _ => none
  | k + 1, x0, x3, x4, x5, x6, x7 => if x7 < 3 then (if 0 ≤ x6 then (if x6 < (x3.length : Int) then (if 0 ≤ x7 then (if x7 ≤ (wrap64 (x7 + 1)) then (if (wrap64 (x7 + 1)) ≤ 3 then (if (rdOf ByteArray.empty x3 x6).size + ((⟨#[97, 98, 99]⟩ : ByteArray).extract (x7 : Int).toNat ((wrap64 (x7 + 1)) : Int).toNat).size ≤ 9223372036854775807 then (if x5.length < 8796093022208 then (spec_WordsOfLength.l2 k x0 x3 x4 (x5 ++ [(rdOf ByteArray.empty x3 x6) ++ ((⟨#[97, 98, 99]⟩ : ByteArray).extract (x7 : Int).toNat ((wrap64 (x7 + 1)) : Int).toNat)]) x6 (wrap64 (x7 + 1))) else (none)) else (none)) else (none)) else (none)) else (none)) else (none)) else (none)) else (spec_WordsOfLength.l1 k x0 x3 x4 x5 (wrap64 (x6 + 1)))
end
def spec_WordsOfLength.f (k : Nat) (a0 : Int) : Option (List ByteArray) := (spec_l1In.f a0 0 5).bind fun ai => (if ai = true then (spec_WordsOfLength.l0 k a0 (([(⟨#[]⟩ : ByteArray)] : List ByteArray)) 0) else (some (([] : List ByteArray))))
theorem spec_WordsOfLength.mono_l : ∀ k, (∀ y0 y1 y2, LeO (spec_WordsOfLength.l0 k y0 y1 y2) (spec_WordsOfLength.l0 (k + 1) y0 y1 y2)) ∧ (∀ y0 y1 y2 y3 y4, LeO (spec_WordsOfLength.l1 k y0 y1 y2 y3 y4) (spec_WordsOfLength.l1 (k + 1) y0 y1 y2 y3 y4)) ∧ (∀ y0 y1 y2 y3 y4 y5, LeO (spec_WordsOfLength.l2 k y0 y1 y2 y3 y4 y5) (spec_WordsOfLength.l2 (k + 1) y0 y1 y2 y3 y4 y5))
 | 0 => ⟨fun _ _ _ r h => by simp [spec_WordsOfLength.l0] at h, fun _ _ _ _ _ r h => by simp [spec_WordsOfLength.l1] at h, fun _ _ _ _ _ _ r h => by simp [spec_WordsOfLength.l2] at h⟩
 | k + 1 => by
  obtain ⟨ih0, ih1, ih2⟩ := spec_WordsOfLength.mono_l k
  refine ⟨?_, ?_, ?_⟩
  ·intro y0 y1 y2
   unfold spec_WordsOfLength.l0
   repeat' first
   | (with_reducible exact ih0 _ _ _)
   | (with_reducible exact ih1 _ _ _ _ _)
   | (with_reducible exact ih2 _ _ _ _ _ _)
   | (with_reducible exact LeO.refl _)
   | (with_reducible exact LeO.none _)
   | (with_reducible refine LeO.ite ?_ ?_)
   | (with_reducible refine LeO.bind ?_ (fun _ => ?_))
   | exact ih0 _ _ _
   | exact ih1 _ _ _ _ _
   | exact ih2 _ _ _ _ _ _
   | exact LeO.none _
   | refine LeO.ite ?_ ?_
   | refine LeO.bind ?_ (fun _ => ?_)
  ·intro y0 y1 y2 y3 y4
   unfold spec_WordsOfLength.l1
   repeat' first
   | (with_reducible exact ih0 _ _ _)
   | (with_reducible exact ih1 _ _ _ _ _)
   | (with_reducible exact ih2 _ _ _ _ _ _)
   | (with_reducible exact LeO.refl _)
   | (with_reducible exact LeO.none _)
   | (with_reducible refine LeO.ite ?_ ?_)
   | (with_reducible refine LeO.bind ?_ (fun _ => ?_))
   | exact ih0 _ _ _
   | exact ih1 _ _ _ _ _
   | exact ih2 _ _ _ _ _ _
   | exact LeO.none _
   | refine LeO.ite ?_ ?_
   | refine LeO.bind ?_ (fun _ => ?_)
  ·intro y0 y1 y2 y3 y4 y5
   unfold spec_WordsOfLength.l2
   repeat' first
   | (with_reducible exact ih0 _ _ _)
   | (with_reducible exact ih1 _ _ _ _ _)
   | (with_reducible exact ih2 _ _ _ _ _ _)
   | (with_reducible exact LeO.refl _)
   | (with_reducible exact LeO.none _)
   | (with_reducible refine LeO.ite ?_ ?_)
   | (with_reducible refine LeO.bind ?_ (fun _ => ?_))
   | exact ih0 _ _ _
   | exact ih1 _ _ _ _ _
   | exact ih2 _ _ _ _ _ _
   | exact LeO.none _
   | refine LeO.ite ?_ ?_
   | refine LeO.bind ?_ (fun _ => ?_)
theorem spec_WordsOfLength.mono : ∀ a0 k, LeO (spec_WordsOfLength.f k a0) (spec_WordsOfLength.f (k + 1) a0) := by
 intro a0 k
 obtain ⟨ih0, ih1, ih2⟩ := spec_WordsOfLength.mono_l k
 unfold spec_WordsOfLength.f
 repeat' first
   | (with_reducible exact ih0 _ _ _)
   | (with_reducible exact ih1 _ _ _ _ _)
   | (with_reducible exact ih2 _ _ _ _ _ _)
   | (with_reducible exact LeO.refl _)
   | (with_reducible exact LeO.none _)
   | (with_reducible refine LeO.ite ?_ ?_)
   | (with_reducible refine LeO.bind ?_ (fun _ => ?_))
   | exact ih0 _ _ _
   | exact ih1 _ _ _ _ _
   | exact ih2 _ _ _ _ _ _
   | exact LeO.none _
   | refine LeO.ite ?_ ?_
   | refine LeO.bind ?_ (fun _ => ?_)
def spec_WordsOfLength.T14 : Bool × List (List Nat × List Nat) := (true, [([], []), ([], []), ([], []), ([1, 2], [1, 2]), ([3], [3]), ([], []), ([], []), ([6], [6]), ([5, 7], [5, 7]), ([4, 8], [4, 8]), ([9], [9]), ([0, 10], [0, 10]), ([11, 11, 0, 1, 2, 3, 4, 5, 6, 7, 8, 9, 10, 11], [0, 11])])
def spec_WordsOfLength.B14 : List Nat := [0, 0, 0, 6, 14, 0, 0, 64, 224, 510, 1022, 2047, 4095]
theorem spec_WordsOfLength.tab14 : rtab .any (opsOf Try.f106 14) = spec_WordsOfLength.T14 := by kernel_rfl
theorem spec_WordsOfLength.bits14 : waitsOk spec_WordsOfLength.T14.2 spec_WordsOfLength.B14 = true := by kernel_rfl
theorem zp50_0_ {p q : Prop} (h : p) (c : p → q := by intro h_; repeat (first | (with_reducible first | exact h_ | apply below_alloc | apply pw_below_drewN | apply below_drew1) | exact h_)) : q := c h
set_option maxHeartbeats 8000000 in
set_option maxRecDepth 100000 in
theorem spec_WordsOfLength.calls (k : Nat) (a0 : Int) (r : List ByteArray) (w : World) (h : spec_WordsOfLength.f k a0 = some r) :
  Calls Try.prog 106 #[.int .i64 a0] w fun e w' => ∃ v0_ : Value, e = .returned (v0_) ∧ Kd.R Kd.string 9 w' w.heap.size (fun _ => True) v0_ r ∧ Below w.heap.size w w' := by
 have HB := am_ (Below.refl w.heap.size w)
 have H : ((spec_l1In.f a0 0 5).bind fun ai => (if ai = true then (spec_WordsOfLength.l0 k a0 (([(⟨#[]⟩ : ByteArray)] : List ByteArray)) 0) else (some (([] : List ByteArray))))) = some r := h
 clear h
 replace H := Option.bind_eq_some_iff.mp H
 obtain ⟨ai, A20, H⟩ := H
 have A2 := am_ A20
 clear A20
 by_cases c3 : ai = true
 ·subst c3
  have H1 : (spec_WordsOfLength.l0 k a0 (([(⟨#[]⟩ : ByteArray)] : List ByteArray)) 0) = some r := by rw [if_pos rfl] at H; exact H
  clear H
  have H := H1
  clear H1
  obtain ⟨aq, hy867⟩ : ∃ y_ : List ByteArray, y_ = (([(⟨#[]⟩ : ByteArray)] : List ByteArray)) := ⟨_, rfl⟩
  replace H : (spec_WordsOfLength.l0 k a0 aq 0) = some r := by first | (rw [hy867]; with_reducible exact H) | (have H2_ := (Option.bind_some _ _).symm.trans H; rw [hy867]; with_reducible exact H2_) | (have H2_ := (Option.bind_some _ _).symm.trans H; with_reducible exact H2_) | with_reducible exact H | (rw [hy867]; exact H) | exact H
  have am := am_ hy867
  clear hy867
  have H' := am_ H
  clear H
  go_enter Try.func106, Try.ntmps106
  go_wp2_with (first | ((with_reducible refine gate_callee (f := 95) rfl ?_); refine gL_ (some 9) Try.func95 #[.int .i64 a0, .int .i64 0, .int .i64 5] ?_; (with_reducible refine (spec_l1In.calls a0 0 5 true _ A2.out).mono ?_); rintro e w' ⟨rfl, ⟨nd, rfl⟩⟩; refine ⟨_, rfl, ?_⟩) | ((with_reducible refine gate_dst (N := 12) rfl ?_); refine Kd.R_lit Kd.string _ 9 ?hg (N := 12) ?hd (xs := ([(⟨#[]⟩ : ByteArray)] : List ByteArray)) (inner := [.string (⟨#[]⟩ : ByteArray)]) (ok := fun _ => True) (okp := fun _ => True) ?hr ?hp (fun _ hk => hk) trivial (Below.refl _ _) (Nat.le_refl _) (by simp) ?_; (case hd => rfl); (case hg => rfl); (case hr => first | (go_simp; done) | (go_simp; rfl)); (case hp => exact (Reps.one (show Kd.M Kd.string _ _ _ (⟨#[]⟩ : ByteArray) [.string (⟨#[]⟩ : ByteArray)] from rfl) (Reps.none _ _))); intro aG w4 ho5 hb hg_ hnew_; clear hg_ hnew_; (first | rw [← am.out] at ho5 | (simp only [Int.reduceToNat] at ho5; rw [← am.out] at ho5)); replace aw := am_ (Kd.R_lower ho5 (below_size (b0_ HB.out))); replace HB := am_ (below_step (b0_ HB.out) hb); clear hb ho5))
  go_loopg [3, 4] k (fun kq v3 v4 w' => ∃ (ab : List ByteArray) (af : Int), v4 = .int .i64 af ∧ Aside0 (spec_WordsOfLength.l0 kq a0 ab af = some r) ∧ Aside0 (kq ≤ k) ∧ Aside0 (Kd.R Kd.string 9 w' w.heap.size (fun _ => True) v3 ab) ∧ Aside0 (Below w.heap.size w w'))
  case atStart => exact ⟨(aq), (0), (by first | rfl | (simp; done) | (simp [*]; done)), H', ⟨Nat.le_refl _⟩, ⟨by refine rr_ ?_; exact aw.out⟩, ⟨by exact zp50_0_ HB.out⟩⟩
  case round =>
   clear H'
   try clear c1
   try clear p2
   try clear c3
   obtain ⟨ab, af, rfl, HA, HK1, ae, HB⟩ := hrel
   cases gk with
   | zero => exact absurd HA.out (by simp [spec_WordsOfLength.l0])
   | succ k1 =>
    have H := HA.out
    clear HA
    simp only [spec_WordsOfLength.l0] at H
    by_cases c6 : af < a0
    ·rw [if_pos c6] at H
     have c6b0 : decide (af < a0) = true := decide_eq_true c6
     clear c6
     obtain ⟨ar, hy870⟩ : ∃ y_ : List ByteArray, y_ = (([] : List ByteArray)) := ⟨_, rfl⟩
     replace H : (spec_WordsOfLength.l1 k1 a0 ab af ar 0) = some r := by first | (rw [hy870]; with_reducible exact H) | (have H2_ := (Option.bind_some _ _).symm.trans H; rw [hy870]; with_reducible exact H2_) | (have H2_ := (Option.bind_some _ _).symm.trans H; with_reducible exact H2_) | with_reducible exact H | (rw [hy870]; exact H) | exact H
     have an := am_ hy870
     clear hy870
     have H' := am_ H
     clear H
     go_wp2_with (first | ((with_reducible refine gate_dst (N := 18) rfl ?_); refine Kd.R_lit Kd.string _ 9 ?hg (N := 18) ?hd (xs := ([] : List ByteArray)) (inner := []) (ok := fun _ => True) (okp := fun _ => True) ?hr ?hp (fun _ hk => hk) trivial (Below.refl _ _) (Nat.le_refl _) (by simp) ?_; (case hd => rfl); (case hg => rfl); (case hr => first | (go_simp; done) | (go_simp; rfl)); (case hp => exact (Reps.none _ _)); intro aH w7 ho8 hb hg_ hnew_; clear hg_ hnew_; (first | rw [← an.out] at ho8 | (simp only [Int.reduceToNat] at ho8; rw [← an.out] at ho8)); have n0_ := am_ (Kd.R_elder' (rr_ ae.out) (Kd.R_base ho8) hb); have n1_ := am_ (Kd.R_lower (Kd.R_new' ho8 (Kd.R_lt (rr_ ae.out))) (below_size (b0_ HB.out))); have n2_ := am_ (below_step (b0_ HB.out) hb); clear ae; clear HB; have ae := n0_; have ax := n1_; have HB := n2_; clear n0_ n1_ n2_; clear hb ho8))
     go_loopg [5, 6] k1 (fun kq v5 v6 w' => ∃ (aj : List ByteArray) (ad : Int), v6 = .int .i64 ad ∧ Aside0 (spec_WordsOfLength.l1 kq a0 ab af aj ad = some r) ∧ Aside0 (kq ≤ k1) ∧ Aside0 (Kd.R Kd.string 9 w' w.heap.size (fun k_ => some k_ ≠ (v5 : Value).ownBlock) u3 ab) ∧ Aside0 (Kd.R Kd.string 9 w' w.heap.size (fun k_ => some k_ ≠ (u3 : Value).ownBlock) v5 aj) ∧ Aside0 (Below w.heap.size w w'))
     case atStart => exact ⟨(ar), (0), (by first | rfl | (simp; done) | (simp [*]; done)), H', ⟨Nat.le_refl _⟩, ⟨by refine rr_ ?_; exact Kd.R_mono ae.out (fun _ hk => hk.2)⟩, ⟨by refine rr_ ?_; exact Kd.R_mono ax.out (fun _ hk => hk.2)⟩, ⟨by exact zp50_0_ HB.out⟩⟩
     case round =>
      clear H'
      try clear c1
      try clear p2
      try clear c3
      try clear c6
      try clear c6b0
      try clear p2
      obtain ⟨aj, ad, rfl, HA, HK2, ae, ag, HB⟩ := hrel
      cases gk with
      | zero => exact absurd HA.out (by simp [spec_WordsOfLength.l1])
      | succ k2 =>
       have H := HA.out
       clear HA
       simp only [spec_WordsOfLength.l1] at H
       by_cases c9 : ad < (ab.length : Int)
       ·rw [if_pos c9] at H
        have c9b0 : decide (ad < (ab.length : Int)) = true := decide_eq_true c9
        clear c9
        have H' := am_ H
        clear H
        obtain ⟨au, al, aC⟩ := Kd.R_slice ae.out
        subst aC
        go_wp2
        go_loopg [5, 7] k2 (fun kq v5 v7 w' => ∃ (ah : List ByteArray) (aa : Int), v7 = .int .i64 aa ∧ Aside0 (spec_WordsOfLength.l2 kq a0 ab af ah ad aa = some r) ∧ Aside0 (kq ≤ k2) ∧ Aside0 (Kd.R Kd.string 9 w' w.heap.size (fun k_ => some k_ ≠ (v5 : Value).ownBlock) (.slice au ab.length al) ab) ∧ Aside0 (Kd.R Kd.string 9 w' w.heap.size (fun k_ => some k_ ≠ ((.slice au ab.length al) : Value).ownBlock) v5 ah) ∧ Aside0 (Below w.heap.size w w'))
        case atStart => exact ⟨(aj), (0), (by first | rfl | (simp; done) | (simp [*]; done)), H', ⟨Nat.le_refl _⟩, ⟨by refine rr_ ?_; exact ae.out⟩, ⟨by refine rr_ ?_; exact ag.out⟩, ⟨by exact zp50_0_ HB.out⟩⟩
        case round =>
         clear H'
         try clear c1
         try clear p2
         try clear c3
         try clear c6
         try clear c6b0
         try clear c9
         try clear c9b0
         try clear c10
         try clear p2
         obtain ⟨ah, aa, rfl, HA, HK3, ae, ag, HB⟩ := hrel
         cases gk with
         | zero => exact absurd HA.out (by simp [spec_WordsOfLength.l2])
         | succ k3 =>
          have H := HA.out
          clear HA
          simp only [spec_WordsOfLength.l2] at H
          by_cases c11 : aa < 3
          ·rw [if_pos c11] at H
           have c11b0 : decide (aa < 3) = true := decide_eq_true c11
           clear c11
           by_cases c12 : 0 ≤ ad
           ·rw [if_pos c12] at H
            have c12b0 : decide (0 ≤ ad) = true := decide_eq_true c12
            clear c12
            by_cases c13 : ad < (ab.length : Int)
            ·rw [if_pos c13] at H
             have c13b0 : decide (ad < (ab.length : Int)) = true := decide_eq_true c13
             clear c13
             by_cases c14 : 0 ≤ aa
             ·rw [if_pos c14] at H
              have c14b0 := eq_true c14
              have c14b1 : decide (0 ≤ aa) = true := decide_eq_true c14
              clear c14
              by_cases c15 : aa ≤ (wrap64 (aa + 1))
              ·rw [if_pos c15] at H
               have c15b0 := eq_true c15
               have c15b1 : decide (aa ≤ (wrap64 (aa + 1))) = true := decide_eq_true c15
               by_cases c16 : (wrap64 (aa + 1)) ≤ 3
               ·rw [if_pos c16] at H
                have c16b0 := eq_true c16
                have c16b1 : decide ((wrap64 (aa + 1)) ≤ 3) = true := decide_eq_true c16
                by_cases c17 : (rdOf ByteArray.empty ab ad).size + ((⟨#[97, 98, 99]⟩ : ByteArray).extract (aa : Int).toNat ((wrap64 (aa + 1)) : Int).toNat).size ≤ 9223372036854775807
                ·rw [if_pos c17] at H
                 have c17b0 := eq_true c17
                 have c17b1 : decide ((rdOf ByteArray.empty ab ad).size + ((⟨#[97, 98, 99]⟩ : ByteArray).extract (aa : Int).toNat ((wrap64 (aa + 1)) : Int).toNat).size ≤ 9223372036854775807) = true := decide_eq_true c17
                 try have c17b2 : (9223372036854775807 < (rdOf ByteArray.empty ab ad).size + ((⟨#[97, 98, 99]⟩ : ByteArray).extract (aa : Int).toNat ((wrap64 (aa + 1)) : Int).toNat).size) = False := eq_false (Nat.not_lt.2 c17)
                 try have c17b3 : (9223372036854775807 < (rdOf ByteArray.empty ab ad).size + (((wrap64 (aa + 1)) : Int).toNat - (aa : Int).toNat)) = False := eq_false (by have h_ := c17; rw [ByteArray.size_extract, show (⟨#[97, 98, 99]⟩ : ByteArray).size = 3 from rfl] at h_; omega)
                 try have c17b5 : (9223372036854775807 < (rdOf ByteArray.empty ab ad).size + ((⟨#[97, 98, 99]⟩ : ByteArray).extract (aa : Int).toNat ((wrap64 (aa + 1)) : Int).toNat).size) = False := eq_false (by have h_ := c17; simp only [ByteArray.size_append, ByteArray.size_extract, show (⟨#[97, 98, 99]⟩ : ByteArray).size = 3 from rfl] at h_; first | omega | (simp only [decide_eq_true_eq] at *; omega))
                 by_cases c18 : ah.length < 8796093022208
                 ·rw [if_pos c18] at H
                  have LMc18 := am_ c18
                  clear c18
                  obtain ⟨av, hy874⟩ : ∃ y_ : List ByteArray, y_ = (ah ++ [(rdOf ByteArray.empty ab ad) ++ ((⟨#[97, 98, 99]⟩ : ByteArray).extract (aa : Int).toNat ((wrap64 (aa + 1)) : Int).toNat)]) := ⟨_, rfl⟩
                  replace H : (spec_WordsOfLength.l2 k3 a0 ab af av ad (wrap64 (aa + 1))) = some r := by first | (rw [hy874]; with_reducible exact H) | (have H2_ := (Option.bind_some _ _).symm.trans H; rw [hy874]; with_reducible exact H2_) | (have H2_ := (Option.bind_some _ _).symm.trans H; with_reducible exact H2_) | with_reducible exact H | (rw [hy874]; exact H) | exact H
                  have ay := am_ hy874
                  clear hy874
                  have H' := am_ H
                  clear H
                  try go_wp2
                  replace ae := am_ (Kd.R_drew ae.out)
                  replace ag := am_ (Kd.R_drew ag.out)
                  replace HB := am_ (below_drew1 HB.out)
                  have p873 : 0 ≤ (ad : Int) := of_decide_eq_true ah_
                  have q873 : ad < (ab.length : Int) := of_decide_eq_true ah_
                  obtain ⟨ao, e873, ak⟩ := Kd.at_string (Kd.R_reads' ae.out).2.2 ad p873 q873
                  cases e873
                  replace p873 := eq_true p873
                  replace q873 := eq_true q873
                  refine start_ (n := 13) (S := fun w' => w'.cell? (ao.add (ad).toNat) = some (.string (rdOf ByteArray.empty ab ad))) (ds := [10, 11]) (bl 13 0) (by kernel_rfl) rfl rfl (ak) (fun hHeld => ?_); refine with_tabW spec_WordsOfLength.tab14 spec_WordsOfLength.bits14 (fun HT_ HW_ => ?_)
                  generalize wr.drew = w19 at ae ag HB ak hHeld ⊢
                  refine pu_ 0 29 (bl 13 1) HT_ ?_
                  refine pu_ 1 30 (bl 13 3) HT_ ?_
                  refine pu_ 2 31 (bl 13 7) HT_ ?_
                  refine pu_ 3 32 (bl 13 15) HT_ ?_
                  refine pu_ 5 34 (bl 13 47) HT_ ?_
                  refine pu_ 6 35 (bl 13 111) HT_ ?_
                  refine pu_ 7 36 (bl 13 239) HT_ ?_
                  refine pu_ 8 37 (bl 13 495) HT_ ?_
                  refine tk_ 4 33 (bl 13 511) HT_ HW_ hHeld ?_
                  refine pu_ 9 38 (bl 13 1023) HT_ ?_
                  refine last_ (i := 10) (N := some 39) (bl 13 2047) rfl rfl (one_of HT_.out (by kernel_rfl)) (by decide) (fun K hK => ?_)
                  refine value_ (w1 := ?_) (v := ?_) (by rfl) rfl ?_ ?_
                  rotate_left 2
                  ·go_simp
                   constructor
                   ·rfl
                   ·rfl
                  refine hK.out _ _ ?_
                  clear hK K
                  refine norm_ (a' := ?_) ?_ ?_
                  rotate_left
                  ·show Act.put _ (some 39) _ = _
                   simp only [pn_, sz_, ss_, i64_w, i32_w]
                   rfl
                  refine last_ (i := 11) (N := some 40) (bl 13 4095) rfl rfl (one_of HT_.out (by kernel_rfl)) (by decide) (fun K hK => ?_)
                  refine Kd.R_append_step Kd.string (w0 := w) w.heap.size (by rfl) (.tmp 29) (.tmp 39) 52 9 (.string ⟨#[]⟩) 16 rfl Try.underlying52 info9 rfl (by decide) (by omega) u5 ah ((rdOf ByteArray.empty ab ad) ++ ((⟨#[97, 98, 99]⟩ : ByteArray).extract (aa : Int).toNat ((wrap64 (aa + 1)) : Int).toNat)) [.string ((rdOf ByteArray.empty ab ad) ++ ((⟨#[97, 98, 99]⟩ : ByteArray).extract (aa : Int).toNat ((wrap64 (aa + 1)) : Int).toNat))] (fun k_ => some k_ ≠ (.slice (some ao) ab.length al : Value).ownBlock) (fun _ => False) rfl rfl ?aP (fun _ hk => hk.elim) ?aF ?aO ?aB ?aS ?aL ?_
                  (case aP => exact rfl)
                  (case aB => exact (b0_ HB.out))
                  (case aF => exact (fun k_ hk => Kd.fresh' (Kd.R_lt (rr_ ae.out)) k_ hk))
                  (case aO => exact (rr_ ag.out))
                  (case aS => exact (below_size (b0_ HB.out)))
                  (case aL => have := LMc18.out; omega)
                  intro aI w20 ho hb hg hat
                  rw [← ay.out] at ho
                  replace ae := am_ (Kd.R_after (ok := (fun _ => True)) (by refine rr_ ?_; exact Kd.R_mono ae.out (fun _ hk => ⟨trivial, hk⟩)) hg hat)
                  replace HB := am_ (hb)
                  replace az := am_ (ho)
                  clear ag ho hb hg hat
                  refine hK.out _ _ ?_
                  clear hK K
                  refine norm_ (a' := ?_) ?_ ?_
                  rotate_left
                  ·show Act.put _ (some 40) _ = _
                   simp only [pn_, sz_, ss_, i64_w, i32_w]
                   rfl
                  refine pu_ 12 5 (bl 13 8191) HT_ ?_
                  refine done_ (done_of HT_.out (by kernel_rfl)) ?_
                  try go_wp2
                  go_roundg k3
                  case measure => have := HK1.out; have := HK2.out; have := HK3.out; omega
                  case rel => exact ⟨(av), (wrap64 (aa + 1)), (by first | rfl | (simp; done) | (simp [*]; done)), H', ⟨by have := HK1.out; have := HK2.out; have := HK3.out; omega⟩, ⟨by refine rr_ ?_; exact Kd.R_mono ae.out (fun _ hk => hk.2)⟩, ⟨by refine rr_ ?_; exact az.out⟩, ⟨by exact zp50_0_ HB.out⟩⟩
                 ·rw [if_neg c18] at H
                  exact absurd H (by simp)
                ·rw [if_neg c17] at H
                 exact absurd H (by simp)
               ·rw [if_neg c16] at H
                exact absurd H (by simp)
              ·rw [if_neg c15] at H
               exact absurd H (by simp)
             ·rw [if_neg c14] at H
              exact absurd H (by simp)
            ·rw [if_neg c13] at H
             exact absurd H (by simp)
           ·rw [if_neg c12] at H
            exact absurd H (by simp)
          ·rw [if_neg c11] at H
           have c11b0 : decide (aa < 3) = false := decide_eq_false c11
           clear c11
           have H' := am_ H
           clear H
           go_wp2
           go_roundg k3
           case measure => have := HK1.out; have := HK2.out; have := HK3.out; omega
           case rel => exact ⟨(ah), (wrap64 (ad + 1)), (by first | rfl | (simp; done) | (simp [*]; done)), H', ⟨by have := HK1.out; have := HK2.out; have := HK3.out; omega⟩, ⟨by refine rr_ ?_; exact ae.out⟩, ⟨by refine rr_ ?_; exact ag.out⟩, ⟨by exact zp50_0_ HB.out⟩⟩
       ·rw [if_neg c9] at H
        have c9b0 : decide (ad < (ab.length : Int)) = false := decide_eq_false c9
        clear c9
        have H' := am_ H
        clear H
        obtain ⟨aJ, aK, aD⟩ := Kd.R_slice ae.out
        subst aD
        go_wp2
        go_roundg k2
        case measure => have := HK1.out; have := HK2.out; omega
        case rel => exact ⟨(aj), (wrap64 (af + 1)), (by first | rfl | (simp; done) | (simp [*]; done)), H', ⟨by have := HK1.out; have := HK2.out; omega⟩, ⟨by refine rr_ ?_; exact Kd.R_mono ag.out (fun _ hk => trivial)⟩, ⟨by exact zp50_0_ HB.out⟩⟩
    ·rw [if_neg c6] at H
     have c6b0 : decide (af < a0) = false := decide_eq_false c6
     clear c6
     obtain rfl := Option.some.inj H
     simp only [Option.some.injEq, Prod.mk.injEq] at H
     obtain ⟨rfl⟩ := H
     go_wp2
     go_ret
     exact ⟨_, by first | rfl | (simp [errW_none, errW_some] <;> rfl) | (simp [*, errW_none, errW_some] <;> rfl), by refine rr_ ?_; exact ae.out, by exact zp50_0_ HB.out⟩
 ·replace c3 := Bool.eq_false_iff.mpr c3
  subst c3
  have H1 : (some (([] : List ByteArray))) = some r := by rw [if_neg (show ¬ (false = true) by decide)] at H; exact H
  clear H
  have H := H1
  clear H1
  obtain ⟨aE, hy864⟩ : ∃ y_ : List ByteArray, y_ = (([] : List ByteArray)) := ⟨_, rfl⟩
  replace H : (some aE) = some r := by first | (rw [hy864]; with_reducible exact H) | (have H2_ := (Option.bind_some _ _).symm.trans H; rw [hy864]; with_reducible exact H2_) | (have H2_ := (Option.bind_some _ _).symm.trans H; with_reducible exact H2_) | with_reducible exact H | (rw [hy864]; exact H) | exact H
  have ap := am_ hy864
  clear hy864
  obtain rfl := Option.some.inj H
  simp only [Option.some.injEq, Prod.mk.injEq] at H
  obtain ⟨rfl⟩ := H
  go_enter Try.func106, Try.ntmps106
  go_wp2_with (first | ((with_reducible refine gate_callee (f := 95) rfl ?_); refine gL_ (some 9) Try.func95 #[.int .i64 a0, .int .i64 0, .int .i64 5] ?_; (with_reducible refine (spec_l1In.calls a0 0 5 false _ A2.out).mono ?_); rintro e w' ⟨rfl, ⟨nd, rfl⟩⟩; refine ⟨_, rfl, ?_⟩) | ((with_reducible refine gate_dst (N := 11) rfl ?_); refine Kd.R_lit Kd.string _ 9 ?hg (N := 11) ?hd (xs := ([] : List ByteArray)) (inner := []) (ok := fun _ => True) (okp := fun _ => True) ?hr ?hp (fun _ hk => hk) trivial (Below.refl _ _) (Nat.le_refl _) (by simp) ?_; (case hd => rfl); (case hg => rfl); (case hr => first | (go_simp; done) | (go_simp; rfl)); (case hp => exact (Reps.none _ _)); intro aM w22 ho23 hb hg_ hnew_; clear hg_ hnew_; (first | rw [← ap.out] at ho23 | (simp only [Int.reduceToNat] at ho23; rw [← ap.out] at ho23)); replace aA := am_ (Kd.R_lower ho23 (below_size (b0_ HB.out))); replace HB := am_ (below_step (b0_ HB.out) hb); clear hb ho23))
  go_ret
  exact ⟨_, by first | rfl | (simp [errW_none, errW_some] <;> rfl) | (simp [*, errW_none, errW_some] <;> rfl), by refine rr_ ?_; exact aA.out, by exact zp50_0_ HB.out⟩
end Go.Proofs.Ytogamkblkoobkaa.P
end
