/- Texts of the proof of FnExactProductDfa, put together. No condition. -/
import Derived.Shelf.Abstract
import Derived.Lib.Walk
import Derived.Test.YtogamkblkoobkaaQFnExactProductDfa9
import Derived.Test.YtogamkblkoobkaaQFnExactProductDfa2
import Derived.Test.YtogamkblkoobkaaQFnExactProductDfa4
import Derived.Test.YtogamkblkoobkaaQFnExactProductDfa7
section
namespace Go.Proofs.Ytogamkblkoobkaa.Wk
open Go.RowKit Go.Shelf Go.Proofs.Ytogamkblkoobkaa.P Go.Proofs.Ytogamkblkoobkaa.Pl Go.Proofs.Ytogamkblkoobkaa.Mp Go.Proofs.Ytogamkblkoobkaa.Bf Go.Proofs.Ytogamkblkoobkaa.Mn Go.Proofs.Ytogamkblkoobkaa.Lg Go.Proofs.Ytogamkblkoobkaa.Can Go.Proofs.YtogamkblkoobkaaW.PrintWords Go.Proofs.YtogamkblkoobkaaW.PrintLast Go.Proofs.YtogamkblkoobkaaW.PrintMore
set_option linter.unusedVariables false
set_option linter.unusedSimpArgs false
structure MemQ (w w' : World) (okl okr : Nat → Prop) (vl : Value) (g6 g9 : Nat) (L : List Int) (A : List Bool) (M : List (List Int)) (u0 u1 b0 b1 : Value) : Prop where
  list : Kd.R (Kd.int .i64) 3 w' w.heap.size okl vl L
  acc : Kd.R Kd.bool 4 w' w.heap.size (fun _ => True) u0 A
  rows : Kd.S (Kd.slice 3 (Kd.int .i64)) 67 w' w.heap.size okr u1 M
  box : w'.heap[g9]? = some (.cells #[b0, b1] 27 (0, 0))
  res : w'.heap[g6]? = some (.cells #[.slice none 0 0, .slice none 0 0] 27 (0, 0))
  bel : Below w.heap.size w w'
section
variable {w w' w2 : World} {okl okr : Nat → Prop} {vl : Value} {g6 g9 : Nat} {L : List Int} {A : List Bool} {M : List (List Int)} {u0 u1 b0 b1 : Value}
theorem MemQ.below (h : MemQ w w' okl okr vl g6 g9 L A M u0 u1 b0 b1) (hb : Below w'.heap.size w' w2) : MemQ w w2 okl okr vl g6 g9 L A M u0 u1 b0 b1 :=
  ⟨Kd.R_below h.list hb, Kd.R_below h.acc hb, Kd.S_below h.rows hb, blk_below h.box hb, blk_below h.res hb, below_then h.bel h.bel.size hb⟩
theorem MemQ.listed {vn : Value} {Ln : List Int} (h : MemQ w w' okl (fun k => okr k ∧ some k ≠ vl.ownBlock) vl g6 g9 L A M u0 u1 b0 b1) (hg : w'.grownBy w2 vl.ownBlock) (hat : vn.ownBlock = vl.ownBlock ∨ ∃ b, vn.ownBlock = some b ∧ w'.heap.size ≤ b) (ho : Kd.R (Kd.int .i64) 3 w2 w.heap.size okl vn Ln) (hb : Below w.heap.size w w2) : MemQ w w2 okl (fun k => okr k ∧ some k ≠ vn.ownBlock) vn g6 g9 Ln A M u0 u1 b0 b1 :=
  ⟨ho, Kd.R_over' h.acc (Kd.R_typed h.list) (by decide) hg, Kd.S_after h.rows hg hat, blk_grown h.box hg (Kd.R_ne h.list h.box (by decide)), blk_grown h.res hg (Kd.R_ne h.list h.res (by decide)), hb⟩
theorem MemQ.rowed {v v1 : Value} {xs : List Int} {base : Nat} {okw : Nat → Prop} (h : MemQ w w' (fun k => okl k ∧ some k ≠ v.ownBlock) okr vl g6 g9 L A M u0 u1 b0 b1) (hr : Kd.R (Kd.int .i64) 3 w' base okw v xs) (hg : w'.grownBy w2 v.ownBlock) (hat : v1.ownBlock = v.ownBlock ∨ ∃ b, v1.ownBlock = some b ∧ w'.heap.size ≤ b) (hok : ∀ k, okr k → some k ≠ v.ownBlock) (hb : Below w.heap.size w w2) : MemQ w w2 (fun k => okl k ∧ some k ≠ v1.ownBlock) okr vl g6 g9 L A M u0 u1 b0 b1 :=
  ⟨Kd.R_after h.list hg hat, Kd.R_over' h.acc (Kd.R_typed hr) (by decide) hg, Kd.S_grown h.rows hg hok, blk_grown h.box hg (Kd.R_ne hr h.box (by decide)), blk_grown h.res hg (Kd.R_ne hr h.res (by decide)), hb⟩
theorem MemQ.accd {vn : Value} {An : List Bool} (h : MemQ w w' okl okr vl g6 g9 L A M u0 u1 b0 b1) (hg : w'.grownBy w2 u0.ownBlock) (ho : Kd.R Kd.bool 4 w2 w.heap.size (fun _ => True) vn An) (hb : Below w.heap.size w w2) : MemQ w w2 okl okr vl g6 g9 L An M vn u1 b0 b1 :=
  ⟨Kd.R_over' h.list (Kd.R_typed h.acc) (by decide) hg, ho, Kd.S_over' h.rows (Kd.R_typed h.acc) (by decide) hg, blk_grown h.box hg (Kd.R_ne h.acc h.box (by decide)), blk_grown h.res hg (Kd.R_ne h.acc h.res (by decide)), hb⟩
theorem MemQ.rowsd {vn : Value} {Mn : List (List Int)} {okn : Nat → Prop} (h : MemQ w w' okl okr vl g6 g9 L A M u0 u1 b0 b1) (hg : w'.grownBy w2 u1.ownBlock) (ho : Kd.S (Kd.slice 3 (Kd.int .i64)) 67 w2 w.heap.size okn vn Mn) (hb : Below w.heap.size w w2) : MemQ w w2 okl okn vl g6 g9 L A Mn u0 vn b0 b1 :=
  ⟨Kd.R_over' h.list (Kd.S_typed h.rows) (by decide) hg, Kd.R_over' h.acc (Kd.S_typed h.rows) (by decide) hg, ho, blk_grown h.box hg (Kd.S_ne h.rows h.box (by decide)), blk_grown h.res hg (Kd.S_ne h.rows h.res (by decide)), hb⟩
theorem MemQ.opened {v : Value} (h : MemQ w w' (fun _ => True) (fun k => True ∧ some k ≠ vl.ownBlock) vl g6 g9 L A M u0 u1 b0 b1) (ho : Kd.R (Kd.int .i64) 3 w2 w'.heap.size (fun _ => True) v []) (hb : Below w'.heap.size w' w2) :
    MemQ w w2 (fun k => True ∧ some k ≠ v.ownBlock) (fun k => k < w'.heap.size ∧ some k ≠ vl.ownBlock) vl g6 g9 L A M u0 u1 b0 b1 ∧ Kd.R (Kd.int .i64) 3 w2 w.heap.size (fun k => True ∧ some k ≠ vl.ownBlock) v [] :=
  ⟨⟨Kd.R_below (Kd.R_mono (Kd.R_bound h.list) (fun k hk => ⟨trivial, fun e => by have h1 := Kd.R_base ho k e.symm; have h2 := hk.2.2.1; omega⟩)) hb, Kd.R_below h.acc hb, Kd.S_below (Kd.S_mono (Kd.S_bound h.rows) (fun k hk => ⟨hk.2.2.1, hk.1.2⟩)) hb, blk_below h.box hb, blk_below h.res hb, below_then h.bel h.bel.size hb⟩,
    Kd.R_lower (Kd.R_mono (Kd.R_bound ho) (fun k hk => ⟨trivial, fun e => by have h1 := Kd.R_lt h.list k e.symm; have h2 := hk.2.1; omega⟩)) h.bel.size⟩
theorem MemQ.put {v : Value} (h : MemQ w w' okl okr vl g6 g9 L A M u0 u1 b0 b1) (hn : g6 ≠ g9) (hl : w.heap.size ≤ g9) (j : Nat) {c0 c1 : Value} (hbx : (w'.setCell ⟨g9, j, none⟩ v).heap[g9]? = some (.cells #[c0, c1] 27 (0, 0))) : MemQ w (w'.setCell ⟨g9, j, none⟩ v) okl okr vl g6 g9 L A M u0 u1 c0 c1 :=
  ⟨Kd.R_set h.list h.box (by decide) j v, Kd.R_set h.acc h.box (by decide) j v, Kd.S_set h.rows h.box (by decide) j v, hbx, blk_grown h.res (gb_set (gb_refl _ _) j v) (fun e => hn (Option.some.inj e)), below_set h.bel hl⟩
end
def T15z : Bool × List (List Nat × List Nat) := (true, [([], []), ([0], [0]), ([], []), ([1, 2], [1, 2]), ([3], [3]), ([], []), ([4, 5], [4, 5]), ([6], [6]), ([], []), ([7, 8], [7, 8]), ([], []), ([10], [10]), ([], []), ([11, 12], [11, 12]), ([13], [13]), ([], []), ([14, 15], [14, 15]), ([16], [16]), ([9, 17], [9, 17]), ([18, 0, 1, 2, 3, 4, 5, 6, 7, 8, 9, 10, 11, 12, 13, 14, 15, 16, 17, 18], [18])])
def B15z : List Nat := [0, 1, 0, 7, 15, 0, 63, 127, 0, 511, 0, 1024, 0, 7168, 15360, 0, 64512, 130048, 262143, 524287]
theorem tab15z : rtab .any (opsOf Try.f19 15) = T15z := by kernel_rfl
theorem bits15z : waitsOk T15z.2 B15z = true := by kernel_rfl
set_option maxHeartbeats 8000000 in
set_option maxRecDepth 100000 in
theorem spdCalls (A0 : Option Addr) (c0 : Nat) (l0 : List Bool) (A1 : Option Addr) (c1 : Nat) (l1 : List (List Int)) (B0 : Option Addr) (d0 : Nat) (m0 : List Bool) (B1 : Option Addr) (d1 : Nat) (m1 : List (List Int)) (kind : Int) (w : World) (hr0 : Kd.C Kd.bool w A0 l0.length l0) (hc0 : l0.length ≤ c0) (hr1 : Kd.C (Kd.slice 3 (Kd.int .i64)) w A1 l1.length l1) (hc1 : l1.length ≤ c1) (hs0 : Kd.C Kd.bool w B0 m0.length m0) (hd0 : m0.length ≤ d0) (hs1 : Kd.C (Kd.slice 3 (Kd.int .i64)) w B1 m1.length m1) (hd1 : m1.length ≤ d1)
    (z0 : l0.length ≤ 1048576) (z1 : l1.length ≤ 1048576) (z2 : m0.length ≤ 1048576) (z3 : m1.length ≤ 1048576) :
    Calls Try.prog 19 #[.agg #[.slice A0 l0.length c0, .slice A1 l1.length c1], .agg #[.slice B0 m0.length d0, .slice B1 m1.length d1], .int .i64 kind] w fun e w' => ∃ v0 v1 : Value, e = .returned (.tuple #[.agg #[v0, v1], .bool (pdR l0 l1 m0 m1 kind).2.2]) ∧ Kd.R Kd.bool 4 w' w.heap.size (fun _ => True) v0 (pdR l0 l1 m0 m1 kind).1 ∧ Kd.S (Kd.slice 3 (Kd.int .i64)) 67 w' w.heap.size (fun _ => True) v1 (pdR l0 l1 m0 m1 kind).2.1 ∧ Below w.heap.size w w' := by
  have hu := Try.underlying27
  obtain ⟨ka, hka⟩ := (spec_valid l0 l1 z0 z1).rounds
  obtain ⟨kb, hkb⟩ := (spec_valid m0 m1 z2 z3).rounds
  have HV := Aside0.mk (fun W (hb : Below w.heap.size w W) => spec_IsValidDfa.calls ka A0 c0 l0 A1 c1 l1 _ W (Kd.C_below hr0 hb) hc0 (Kd.C_below hr1 hb) hc1 hka)
  have HV2 := Aside0.mk (fun W (hb : Below w.heap.size w W) => spec_IsValidDfa.calls kb B0 d0 m0 B1 d1 m1 _ W (Kd.C_below hs0 hb) hd0 (Kd.C_below hs1 hb) hd1 hkb)
  obtain ⟨OA, hOA⟩ : ∃ o : Obj, o = Obj.cells #[.slice A0 l0.length c0, .slice A1 l1.length c1] 27 := ⟨_, rfl⟩
  obtain ⟨OB, hOB⟩ : ∃ o : Obj, o = Obj.cells #[.slice B0 m0.length d0, .slice B1 m1.length d1] 27 := ⟨_, rfl⟩
  obtain ⟨OD, hOD⟩ : ∃ o : Obj, o = Obj.cells #[.slice none 0 0, .slice none 0 0] 27 := ⟨_, rfl⟩
  have HB0 : Aside0 (Below w.heap.size w (((w.alloc OA).alloc OB).alloc OD)) := ⟨below_alloc (below_alloc (below_alloc (Below.refl w.heap.size w) _) _) _⟩
  have KA0 : Aside0 (World.cell? (((w.alloc OA).alloc OB).alloc OD) ⟨w.heap.size, 0, none⟩ = some (.slice A0 l0.length c0)) := ⟨by rw [hOA]; exact pw_cell_below (below_alloc (below_alloc (Below.refl _ _) _) _) (by simp)⟩
  have KA1 : Aside0 (World.cell? (((w.alloc OA).alloc OB).alloc OD) ⟨w.heap.size, 1, none⟩ = some (.slice A1 l1.length c1)) := ⟨by rw [hOA]; exact pw_cell_below (below_alloc (below_alloc (Below.refl _ _) _) _) (by simp)⟩
  have KB0 : Aside0 (World.cell? (((w.alloc OA).alloc OB).alloc OD) ⟨w.heap.size + 1, 0, none⟩ = some (.slice B0 m0.length d0)) := ⟨by rw [hOB]; exact pw_cell_below (below_alloc (Below.refl _ _) _) (by simp)⟩
  have KB1 : Aside0 (World.cell? (((w.alloc OA).alloc OB).alloc OD) ⟨w.heap.size + 1, 1, none⟩ = some (.slice B1 m1.length d1)) := ⟨by rw [hOB]; exact pw_cell_below (below_alloc (Below.refl _ _) _) (by simp)⟩
  have HR8 : Aside0 ((((w.alloc OA).alloc OB).alloc OD).heap[w.heap.size + 1 + 1]? = some (.cells #[.slice none 0 0, .slice none 0 0] 27 (0, 0))) := ⟨by
    have h0 := blk_new ((w.alloc OA).alloc OB) OD
    rw [hOD] at h0 ⊢
    simpa using h0⟩
  have HGE : Aside0 (w.heap.size ≤ w.heap.size + 1 + 1) := ⟨by omega⟩
  cases hv : validD l0 l1 with
  | false =>
    rw [hv] at HV
    have e : pdR l0 l1 m0 m1 kind = ([], [], false) := by unfold pdR; rw [hv]; rw [if_neg]; rintro ⟨⟨h, _⟩, _⟩; cases h
    rw [e]
    subst hOA hOB hOD
    clear hv e hr0 hr1 hs0 hs1 HV2 hka hkb hc0 hc1 hd0 hd1 z0 z1 z2 z3
    go_enter Try.func19, Try.ntmps19
    go_wp2_with (go_at_call 35; (with_reducible refine (HV.out _ ?hq0).mono ?_); (case hq0 => exact HB0.out); rintro e w1 ⟨rfl, hb⟩; have HB := Aside0.mk (below_then HB0.out HB0.out.size hb); have HR9 := Aside0.mk (blk_below HR8.out hb); have hcz0 : World.cell? w1 ⟨w.heap.size + 1 + 1, 0, none⟩ = some (.slice none 0 0) := (blk_cell HR9.out 0).trans rfl; have hcz1 : World.cell? w1 ⟨w.heap.size + 1 + 1, 1, none⟩ = some (.slice none 0 0) := (blk_cell HR9.out 1).trans rfl; have hfz0 := blk_frozen HR9.out 0; have hfz1 := blk_frozen HR9.out 1; clear hb)
    have HT4 : Aside0 (((w1.setCell ⟨w.heap.size + 1 + 1, 0, none⟩ (.slice none 0 0)).setCell ⟨w.heap.size + 1 + 1, 1, none⟩ (.slice none 0 0)).heap[w.heap.size + 1 + 1]? = some (.cells #[.slice none 0 0, .slice none 0 0] 27 (0, 0))) := ⟨blk_put (blk_put (cs' := #[.slice none 0 0, .slice none 0 0]) HR9.out 0 _ rfl) 1 _ rfl⟩
    refine bodyPost_ret (results_ct rfl _ _ (w.heap.size + 1 + 1) 27 #[.slice none 0 0, .slice none 0 0] (0, 0) _ rfl HT4.out Try.underlying27 rfl (by kernel_rfl)) rfl ?_
    exact ⟨_, _, rfl, Kd.R_nil _ _ _ _ _, Kd.S_nil _ _ _ _ _, below_set (below_set HB.out HGE.out) HGE.out⟩
  | true =>
    rw [hv] at HV
    cases hv2 : validD m0 m1 with
    | false =>
      rw [hv2] at HV2
      have e : pdR l0 l1 m0 m1 kind = ([], [], false) := by unfold pdR; rw [hv2]; rw [if_neg]; rintro ⟨⟨_, h⟩, _⟩; cases h
      rw [e]
      subst hOA hOB hOD
      clear hv hv2 e hr0 hr1 hs0 hs1 hka hkb hc0 hc1 hd0 hd1 z0 z1 z2 z3
      go_enter Try.func19, Try.ntmps19
      go_wp2_with (first | (go_at_call 35; (with_reducible refine (HV.out _ ?hq0).mono ?_); (case hq0 => exact HB0.out); rintro e w1 ⟨rfl, hb⟩; have HB1 := Aside0.mk (below_then HB0.out HB0.out.size hb); have HR1 := Aside0.mk (blk_below HR8.out hb); have ha0 := Aside0.mk (pw_cell_below hb KA0.out); have ha1 := Aside0.mk (pw_cell_below hb KA1.out); have hb0 := pw_cell_below hb KB0.out; have hb1 := pw_cell_below hb KB1.out; clear hb) | (go_at_call 35; (with_reducible refine (HV2.out _ ?hq1).mono ?_); (case hq1 => exact HB1.out); rintro e V ⟨rfl, hb⟩; have HB := Aside0.mk (below_then HB1.out HB1.out.size hb); have HR9 := Aside0.mk (blk_below HR1.out hb); have hc0 := Aside0.mk (pw_cell_below hb ha0.out); have hc1 := Aside0.mk (pw_cell_below hb ha1.out); have hc2 := pw_cell_below hb hb0; have hc3 := Aside0.mk (pw_cell_below hb hb1); have hcz0 : World.cell? V ⟨w.heap.size + 1 + 1, 0, none⟩ = some (.slice none 0 0) := (blk_cell HR9.out 0).trans rfl; have hcz1 : World.cell? V ⟨w.heap.size + 1 + 1, 1, none⟩ = some (.slice none 0 0) := (blk_cell HR9.out 1).trans rfl; have hfz0 := blk_frozen HR9.out 0; have hfz1 := blk_frozen HR9.out 1; clear hb hb0 hb1))
      have HT4 : Aside0 (((V.setCell ⟨w.heap.size + 1 + 1, 0, none⟩ (.slice none 0 0)).setCell ⟨w.heap.size + 1 + 1, 1, none⟩ (.slice none 0 0)).heap[w.heap.size + 1 + 1]? = some (.cells #[.slice none 0 0, .slice none 0 0] 27 (0, 0))) := ⟨blk_put (blk_put (cs' := #[.slice none 0 0, .slice none 0 0]) HR9.out 0 _ rfl) 1 _ rfl⟩
      refine bodyPost_ret (results_ct rfl _ _ (w.heap.size + 1 + 1) 27 #[.slice none 0 0, .slice none 0 0] (0, 0) _ rfl HT4.out Try.underlying27 rfl (by kernel_rfl)) rfl ?_
      exact ⟨_, _, rfl, Kd.R_nil _ _ _ _ _, Kd.S_nil _ _ _ _ _, below_set (below_set HB.out HGE.out) HGE.out⟩
    | true =>
      rw [hv2] at HV2
      by_cases hkk : kind = 6 ∨ kind = 7
      ·
        obtain ⟨R, hR, hR16⟩ := z_runs hv hv2
        have hfit := z_fit (kind := kind) hv hv2 hkk hR
        rw [← hfit]
        obtain ⟨n1, n2, n3, n4⟩ := validD_facts hv
        obtain ⟨k1, k2, k3, k4⟩ := validD_facts hv2
        have hall := hR.all (z_sc hv hv2) (fun x hx => by rw [List.mem_singleton] at hx; subst hx; exact z_zero hv hv2)
        have hrw : Rows3 (R.map (acZ kind l0 m0)).length (R.map (rowX (nxZ l1 m1 m0.length) R)) := (Auto.rows (x0 := (0 : Int)) ⟨R, hR, rfl, rfl⟩).2
        have hr1l := hR.pre.length_le
        obtain ⟨kf, hkf⟩ := (spec_fit (by rw [List.length_map]; exact hr1l) (by rw [List.length_map]; omega) hrw).rounds
        have HKF := Aside0.mk hkf
        generalize fitD (R.map (acZ kind l0 m0)) (R.map (rowX (nxZ l1 m1 m0.length) R)) = fr at HKF ⊢
        obtain ⟨f1, f2, f3⟩ := fr
        have HRUN := Aside0.mk hR
        have HALL := Aside0.mk hall
        have HR16 := Aside0.mk hR16
        have HNX := Aside0.mk (fun z hz j hj => z_next hv hv2 (z := z) hz j hj)
        have HPT := Aside0.mk (fun z hz => z_parts (na := l0.length) k1 (z := z) hz)
        have HROW := Aside0.mk (fun x hx => (fits_valid hv).row x hx)
        have HROW2 := Aside0.mk (fun x hx => (fits_valid hv2).row x hx)
        have HSZ := Aside0.mk (show l0.length ≤ 40 ∧ m0.length ≤ 40 ∧ 1 ≤ l0.length ∧ 1 ≤ m0.length ∧ l1.length = l0.length ∧ m1.length = m0.length from ⟨n2, k2, n1, k1, n3, k3⟩)
        obtain ⟨a0, e0, _⟩ := Kd.at_bool hr0 0 (by omega) (by omega)
        obtain ⟨a1, e1, _⟩ := cellsRows hr1 (by omega)
        obtain ⟨b0, e2, _⟩ := Kd.at_bool hs0 0 (by omega) (by omega)
        obtain ⟨b1, e3, _⟩ := cellsRows hs1 (by omega)
        subst e0 e1 e2 e3
        have HC0 := Aside0.mk hr0
        have HC1 := Aside0.mk hr1
        have HD0 := Aside0.mk hs0
        have HD1 := Aside0.mk hs1
        subst hOA hOB hOD
        clear hv hv2 hfit hR hR16 hall hrw hr1l hkf hr0 hr1 hs0 hs1 n1 n2 n3 n4 k1 k2 k3 k4 hka hkb hc0 hc1 hd0 hd1 z0 z1 z2 z3
        obtain ⟨kd, HKD⟩ : ∃ kd, Aside0 (kd = kind) := ⟨kind, ⟨rfl⟩⟩
        have HKF : Aside0 (spec_l5Fits.f kf (R.map (acZ kd l0 m0)) (R.map (rowX (nxZ l1 m1 m0.length) R)) = some (f1, f2, f3)) := ⟨by rw [HKD.out]; exact HKF.out⟩
        rcases hkk with rfl | rfl
        all_goals
          go_enter Try.func19, Try.ntmps19
          go_wp2_with (first | (go_at_call 35; (with_reducible refine (HV.out _ ?hq0).mono ?_); (case hq0 => exact HB0.out); rintro e w1 ⟨rfl, hb⟩; have HB1 := Aside0.mk (below_then HB0.out HB0.out.size hb); have HR1 := Aside0.mk (blk_below HR8.out hb); have ha0 := Aside0.mk (pw_cell_below hb KA0.out); have ha1 := Aside0.mk (pw_cell_below hb KA1.out); have hb0 := pw_cell_below hb KB0.out; have hb1 := pw_cell_below hb KB1.out; clear hb) | (go_at_call 35; (with_reducible refine (HV2.out _ ?hq1).mono ?_); (case hq1 => exact HB1.out); rintro e V ⟨rfl, hb⟩; have HB := Aside0.mk (below_then HB1.out HB1.out.size hb); have HR9 := Aside0.mk (blk_below HR1.out hb); have hc0 := Aside0.mk (pw_cell_below hb ha0.out); have hc1 := Aside0.mk (pw_cell_below hb ha1.out); have hc2 := pw_cell_below hb hb0; have hc3 := Aside0.mk (pw_cell_below hb hb1); have hcz0 : World.cell? V ⟨w.heap.size + 1 + 1, 0, none⟩ = some (.slice none 0 0) := (blk_cell HR9.out 0).trans rfl; have hcz1 : World.cell? V ⟨w.heap.size + 1 + 1, 1, none⟩ = some (.slice none 0 0) := (blk_cell HR9.out 1).trans rfl; have hfz0 := blk_frozen HR9.out 0; have hfz1 := blk_frozen HR9.out 1; clear hb hb0 hb1))
          have hbA := below_alloc (Below.refl V.heap.size V) (Obj.cells #[Value.slice none 0 0, Value.slice none 0 0] 27)
          have hM0 : MemQ V ((V.alloc (Obj.cells #[Value.slice none 0 0, Value.slice none 0 0] 27)).alloc (Obj.cells #[Value.int .i64 0] 3)) (fun _ => True) (fun k => True ∧ some k ≠ (Value.slice (some ⟨V.heap.size + 1, 0, none⟩) 1 1).ownBlock) (.slice (some ⟨V.heap.size + 1, 0, none⟩) 1 1) (w.heap.size + 1 + 1) V.heap.size [0] [] [] (.slice none 0 0) (.slice none 0 0) (.slice none 0 0) (.slice none 0 0) :=
            ⟨by
              have := R_here (okp := fun _ => True) (inner := [.int .i64 0]) (Kd.int .i64) (V.alloc (Obj.cells #[Value.slice none 0 0, Value.slice none 0 0] 27)) V.heap.size 3 (xs := [(0 : Int)]) (Reps.one (show Kd.M (Kd.int .i64) _ _ _ (0 : Int) [.int .i64 0] from rfl) (Reps.none _ _)) (by simp) (by simp)
              simpa using this, Kd.R_nil _ _ _ _ _, Kd.S_nil _ _ _ _ _, blk_alloc (blk_new V _) _, blk_alloc (blk_alloc HR9.out _) _, below_alloc hbA _⟩
          have HMEM := Aside0.mk hM0
          have H69 : Aside0 (w.heap.size + 1 + 1 ≠ V.heap.size) := ⟨by have := blk_lt HR9.out; omega⟩
          have HG6 : Aside0 (w.heap.size + 1 + 1 < V.heap.size) := ⟨blk_lt HR9.out⟩
          have hc2 := Aside0.mk hc2
          clear hM0 hbA hcz0 hcz1 hfz0 hfz1 HB0 KA0 KA1 KB0 KB1 HR8 HB1 HR1 ha0 ha1 HV HV2
          generalize (V.alloc (Obj.cells #[Value.slice none 0 0, Value.slice none 0 0] 27)).alloc (Obj.cells #[Value.int .i64 0] 3) = ws at HMEM ⊢
          go_loopg [10, 11] (R.length + 2) (fun gg v10 v11 wr => ∃ (L : List Int) (i : Nat) (xa : List Bool) (xy : List (List Int)) (u0 u1 : Value), v11 = .int .i64 (i : Int) ∧ Aside0 (i ≤ L.length) ∧ Aside0 (R.length + 2 ≤ gg + i) ∧ Aside0 (Runs (sc (nxZ l1 m1 m0.length)) L i R) ∧ Aside0 (xa = (R.take i).map (acZ kd l0 m0)) ∧ Aside0 (xy = (R.take i).map (rowX (nxZ l1 m1 m0.length) R)) ∧ Aside0 (MemQ V wr (fun _ => True) (fun k => True ∧ some k ≠ v10.ownBlock) v10 (w.heap.size + 1 + 1) V.heap.size L xa xy u0 u1 u0 u1))
          case atStart => exact ⟨[0], 0, [], [], _, _, rfl, ⟨by simp⟩, ⟨by omega⟩, HRUN, ⟨rfl⟩, ⟨rfl⟩, HMEM⟩
          case round =>
            clear HMEM HRUN
            obtain ⟨L, i, xa, xy, u0, u1, rfl, HI, HG, HRUN, HXA, HXY, HMEM⟩ := hrel
            have hpre := HRUN.out.pre
            have hlr := hpre.length_le
            cases gk with
            | zero => exact absurd HI.out (by have := HG.out; omega)
            | succ g =>
              obtain ⟨A10, c10, e10⟩ := Kd.R_slice HMEM.out.list
              subst e10
              obtain ⟨Aa, ca, ea⟩ := Kd.R_slice HMEM.out.acc
              subst ea
              obtain ⟨Ay, cy, ey⟩ := Kd.S_slice HMEM.out.rows
              subst ey
              by_cases hi : i < L.length
              ·
                have hrun : Runs (sc (nxZ l1 m1 m0.length)) (adds L (sc (nxZ l1 m1 m0.length) L[i])) (i + 1) R := by
                  cases HRUN.out with
                  | stop h => omega
                  | step _ h => exact h
                have hRi : R[i]? = some L[i] := by
                  rw [List.getElem?_eq_getElem (by omega)]
                  exact congrArg some (hpre.getElem hi).symm
                have hLi : L[i]? = some L[i] := List.getElem?_eq_getElem hi
                have hdz := HALL.out _ (hpre.subset (List.getElem_mem hi))
                obtain ⟨ad10, ea10, hx10⟩ := Kd.at_int (Kd.R_reads' HMEM.out.list).2.2 (i : Int) (by omega) (by omega)
                subst ea10
                rw [rd_get L i hi, Int.toNat_natCast] at hx10
                generalize L[i] = z at hrun hRi hLi hdz hx10
                obtain ⟨hp, hq⟩ := HPT.out z hdz
                obtain ⟨pp, hpp⟩ : ∃ pp : Int, pp = z / (m0.length : Int) := ⟨_, rfl⟩
                obtain ⟨qq, hqq⟩ : ∃ qq : Int, qq = z % (m0.length : Int) := ⟨_, rfl⟩
                rw [← hpp] at hp
                rw [← hqq] at hq
                have htd : Int.tdiv z (m0.length : Int) = pp := by rw [hpp]; exact Int.tdiv_eq_ediv_of_nonneg hdz.1
                have htm : Int.tmod z (m0.length : Int) = qq := by rw [hqq]; exact Int.tmod_eq_emod_of_nonneg hdz.1
                have ewp : wrap64 pp = pp := w64 (by have := HSZ.out; omega) (by have := HSZ.out; omega)
                have hn0 : ((m0.length : Int) = 0) = False := eq_false (by have := HSZ.out; omega)
                have hn1 : (m0.length = 0) = False := eq_false (by have := HSZ.out; omega)
                have hn2 : (m0 = []) = False := eq_false (fun h => by have := HSZ.out; rw [h] at this; simp at this)
                have hn3 : ((m0.length : Int) == 0) = false := beq_eq_false_iff_ne.mpr (by have := HSZ.out; omega)
                have hn4 : decide ((m0.length : Int) = 0) = false := decide_eq_false (by have := HSZ.out; omega)
                have hn5 : decide (m0.length = 0) = false := decide_eq_false (by have := HSZ.out; omega)
                have p1 : ((0 : Int) ≤ (i : Int)) = True := eq_true (by omega)
                have q1 : ((i : Int) < (L.length : Int)) = True := eq_true (by omega)
                have hb1 : World.cell? wr ⟨w.heap.size + 1, 0, none⟩ = some (.slice (some b0) m0.length d0) := pw_cell_below HMEM.out.bel hc2.out
                have HI3 := Aside0.mk hi
                have HLR := Aside0.mk hlr
                have HRI := Aside0.mk hRi
                have HLI := Aside0.mk hLi
                have HDZ := Aside0.mk hdz
                have HPP := Aside0.mk hpp
                have HQQ := Aside0.mk hqq
                have HP := Aside0.mk hp
                have HQ := Aside0.mk hq
                have HRUN := Aside0.mk hrun
                clear hpre hi hlr hRi hLi hdz hpp hqq hp hq hrun HI
                go_wp2_with ((with_reducible refine gate_dst (N := 60) rfl ?_); refine Kd.R_lit (Kd.int .i64) _ 3 ?hg (N := 60) ?hd (xs := ([] : List Int)) (inner := []) (ok := fun _ => True) (okp := fun _ => True) ?hr ?hp (fun _ hk => hk) trivial (Below.refl _ _) (Nat.le_refl _) (by simp) ?_; (case hd => rfl); (case hg => rfl); (case hr => first | (go_simp; done) | (go_simp; rfl)); (case hp => exact (Reps.none _ _)); intro v14 w6 ho hb hg_ hnew_; clear hg_ hnew_; have HMI := Aside0.mk (HMEM.out.opened ho hb).1; have HROWI := Aside0.mk (HMEM.out.opened ho hb).2; have HOB := Aside0.mk (fun k => Kd.R_base ho k); have HSW := Aside0.mk hb.size; clear ho hb)
                obtain ⟨W1, rfl⟩ : ∃ wo : World, wo = wr := ⟨_, rfl⟩
                clear HMEM q1 hx10 hb1 htd htm ewp hn0 hn1 hn2 hn3 hn4 hn5
                go_loopg [10, 14, 15] 3 (fun gg v10 v14 v15 wr => ∃ (L : List Int) (row : List Int) (j : Nat), v15 = .int .i64 (j : Int) ∧ Aside0 (j ≤ 3) ∧ Aside0 (3 ≤ gg + j) ∧ Aside0 (Runs (sc (nxZ l1 m1 m0.length)) (adds L (tl (nxZ l1 m1 m0.length) z (3 - j) j)) (i + 1) R) ∧ Aside0 (L[i]? = some z) ∧ Aside0 (row = ((sc (nxZ l1 m1 m0.length) z).take j).map (num R)) ∧ Aside0 (MemQ V wr (fun k => True ∧ some k ≠ v14.ownBlock) (fun k => k < W1.heap.size ∧ some k ≠ v10.ownBlock) v10 (w.heap.size + 1 + 1) V.heap.size L xa xy (.slice Aa xa.length ca) (.slice Ay xy.length cy) (.slice Aa xa.length ca) (.slice Ay xy.length cy)) ∧ Aside0 (Kd.R (Kd.int .i64) 3 wr V.heap.size (fun k => True ∧ some k ≠ v10.ownBlock) v14 row) ∧ Aside0 (∀ k, v14.ownBlock = some k → W1.heap.size ≤ k) ∧ Aside0 (W1.heap.size ≤ wr.heap.size))
                case atStart => exact ⟨L, [], 0, rfl, ⟨by omega⟩, ⟨by omega⟩, HRUN, HLI, ⟨rfl⟩, HMI, HROWI, HOB, HSW⟩
                case round =>
                  clear HMI HROWI HOB HSW HLI HRUN HI3 HLR
                  obtain ⟨L, row, j, rfl, HJ, HGJ, HRUN, HLI, HRW, HM4, HROW4, HOB, HSW4⟩ := hrel
                  obtain ⟨A10, c10, e10⟩ := Kd.R_slice HM4.out.list
                  subst e10
                  obtain ⟨A14, c14, e14⟩ := Kd.R_slice HROW4.out
                  subst e14
                  have hpre := HRUN.out.pre
                  have hlr := ((adds_pre (tl (nxZ l1 m1 m0.length) z (3 - j) j) L).trans hpre).length_le
                  have HBW := Aside0.mk (below_then HB.out HB.out.size HM4.out.bel)
                  by_cases hj : j < 3
                  ·
                    cases gk with
                    | zero => exact absurd HGJ.out (by omega)
                    | succ g3 =>
                    obtain ⟨hx1, hx2, hyd, _, _⟩ := HNX.out z HDZ.out j hj
                    rw [← HPP.out] at hx1
                    rw [← HQQ.out] at hx2
                    have hyy : (nxZ l1 m1 m0.length) z j = nxD l1 pp j * (m0.length : Int) + nxD m1 qq j := by unfold nxZ; rw [← HPP.out, ← HQQ.out]
                    have htl : tl (nxZ l1 m1 m0.length) z (3 - j) j = (nxZ l1 m1 m0.length) z j :: tl (nxZ l1 m1 m0.length) z (3 - (j + 1)) (j + 1) := by rw [show 3 - j = (3 - (j + 1)) + 1 by omega, tl]
                    have hrun := HRUN.out
                    rw [htl, adds_cons] at hrun
                    have hrow : ((sc (nxZ l1 m1 m0.length) z).take (j + 1)).map (num R) = row ++ [num R ((nxZ l1 m1 m0.length) z j)] := by
                      rw [HRW.out]
                      match j, hj with
                      | 0, _ => rfl
                      | 1, _ => rfl
                      | 2, _ => rfl
                    generalize (nxZ l1 m1 m0.length) z j = y at hyy hrun hrow hyd
                    obtain ⟨_, e1, hcell1⟩ := cellsRows HC1.out (by have := HSZ.out; omega)
                    cases e1
                    obtain ⟨Ar, cr, hxr, hCr⟩ := hcell1 pp.toNat (by have := HSZ.out; have := HP.out; omega)
                    obtain ⟨_, e2, hcell2⟩ := cellsRows HD1.out (by have := HSZ.out; omega)
                    cases e2
                    obtain ⟨Bs, cs, hxs, hCs⟩ := hcell2 qq.toNat (by have := HSZ.out; have := HQ.out; omega)
                    have h3 := (HROW.out pp HP.out).1
                    have h4 := (HROW2.out qq HQ.out).1
                    unfold rowOf at h3 h4
                    unfold nxD at hyy hx1 hx2
                    generalize l1.getD pp.toNat [] = row1 at hxr hCr h3 hyy hx1
                    generalize m1.getD qq.toNat [] = row2 at hxs hCs h4 hyy hx2
                    obtain ⟨ar, e3, hxj⟩ := Kd.at_int hCr (j : Int) (by omega) (by omega)
                    subst e3
                    obtain ⟨br, e4, hyj⟩ := Kd.at_int hCs (j : Int) (by omega) (by omega)
                    subst e4
                    rw [h3] at hxr
                    rw [h4] at hxs
                    rw [Int.toNat_natCast] at hxj hyj
                    generalize rd row1 (j : Int) = x1 at hxj hyy hx1
                    generalize rd row2 (j : Int) = x2 at hyj hyy hx2
                    have kA := pw_cell_below HM4.out.bel hc1.out
                    have kB := pw_cell_below HM4.out.bel hc3.out
                    have hxr := pw_cell_below HBW.out hxr
                    have hxs := pw_cell_below HBW.out hxs
                    have hxj := pw_cell_below HBW.out hxj
                    have hyj := pw_cell_below HBW.out hyj
                    have hbd : 0 ≤ x1 * (m0.length : Int) ∧ x1 * (m0.length : Int) ≤ 1600 := by
                      have h5 := HSZ.out
                      refine ⟨Int.mul_nonneg hx1.1 (by omega), ?_⟩
                      calc x1 * (m0.length : Int) ≤ 40 * (m0.length : Int) := Int.mul_le_mul_of_nonneg_right (by omega) (by omega)
                        _ ≤ 1600 := by omega
                    have ew1 : wrap64 (x1 * (m0.length : Int)) = x1 * (m0.length : Int) := w64 (by omega) (by omega)
                    have ew2 : wrap64 (x1 * (m0.length : Int) + x2) = y := by rw [hyy]; exact w64 (by have := HSZ.out; omega) (by have := HSZ.out; omega)
                    have p2 : ((0 : Int) ≤ pp) = True := eq_true HP.out.1
                    have q2 : (pp < (l1.length : Int)) = True := eq_true (by have := HSZ.out; have := HP.out; omega)
                    have p3 : ((0 : Int) ≤ qq) = True := eq_true HQ.out.1
                    have q3 : (qq < (m1.length : Int)) = True := eq_true (by have := HSZ.out; have := HQ.out; omega)
                    have p4 : ((0 : Int) ≤ (j : Int)) = True := eq_true (by omega)
                    have q4 : ((j : Int) < (3 : Int)) = True := eq_true (by omega)
                    have q5 : ((j : Int) < ((3 : Nat) : Int)) = True := eq_true (by omega)
                    have HRUN := Aside0.mk hrun
                    have HROWN := Aside0.mk hrow
                    have HJ3 := Aside0.mk hj
                    have HROL : Aside0 (row.length ≤ 3) := ⟨by rw [HRW.out]; simp; omega⟩
                    have HLL : Aside0 (L.length ≤ 1600) := ⟨by have := HR16.out; omega⟩
                    have HM5 := Aside0.mk (HM4.out.below (below_drew1 (Below.refl _ _)))
                    have HROW5 := Aside0.mk (Kd.R_drew HROW4.out)
                    have HSW5 : Aside0 (W1.heap.size ≤ wr.drew.heap.size) := ⟨HSW4.out⟩
                    have HYD := Aside0.mk hyd
                    clear hrun hrow hj hpre hlr htl hcell1 hcell2 hCr hCs h3 h4 hyy hx1 hx2 hyd hbd HRW HM4 HROW4 HSW4
                    go_wp2
                    refine start_ (n := 20) (S := (fun w' => w'.cell? ⟨w.heap.size, 1, none⟩ = some (.slice (some a1) l1.length c1) ∧ w'.cell? (a1.add pp.toNat) = some (.slice (some ar) 3 cr) ∧ w'.cell? (ar.add j) = some (.int .i64 x1) ∧ w'.cell? ⟨w.heap.size + 1, 1, none⟩ = some (.slice (some b1) m1.length d1) ∧ w'.cell? (b1.add qq.toNat) = some (.slice (some br) 3 cs) ∧ w'.cell? (br.add j) = some (.int .i64 x2))) (ds := []) #[false, false, false, false, false, false, false, false, false, false, false, false, false, false, false, false, false, false, false, false] (by kernel_rfl) rfl rfl (⟨kA, hxr, hxj, kB, hxs, hyj⟩) (fun hHeld => ?_); refine with_tabW tab15z bits15z (fun HT_ HW_ => ?_)
                    clear kA kB hxr hxs hxj hyj
                    generalize wr.drew = w8 at HM5 HROW5 HSW5 hHeld ⊢
                    refine pure_ (i := 0) (N := some 65) (v := ?_) (a' := ?_) #[true, false, false, false, false, false, false, false, false, false, false, false, false, false, false, false, false, false, false, false] rfl rfl (any_of HT_.out (by kernel_rfl)) (fun _ _ _ h => h) (Or.inl ⟨by rfl, ?_⟩) ?_ ?_
                    rotate_left
                    · intro w'
                      go_simp
                      with_reducible rfl
                    rotate_left
                    · simp only [Act.put, List.setIfInBounds_toArray, List.set_cons_zero, List.set_cons_succ, i64_w, i32_w]
                      rfl
                    refine pure_ (i := 2) (N := some 67) (v := ?_) (a' := ?_) #[true, false, true, false, false, false, false, false, false, false, false, false, false, false, false, false, false, false, false, false] rfl rfl (any_of HT_.out (by kernel_rfl)) (fun _ _ _ h => h) (Or.inl ⟨by rfl, ?_⟩) ?_ ?_
                    rotate_left
                    · intro w'
                      go_simp
                      with_reducible rfl
                    rotate_left
                    · simp only [Act.put, List.setIfInBounds_toArray, List.set_cons_zero, List.set_cons_succ, i64_w, i32_w]
                      rfl
                    refine pure_ (i := 5) (N := some 70) (v := ?_) (a' := ?_) #[true, false, true, false, false, true, false, false, false, false, false, false, false, false, false, false, false, false, false, false] rfl rfl (any_of HT_.out (by kernel_rfl)) (fun _ _ _ h => h) (Or.inl ⟨by rfl, ?_⟩) ?_ ?_
                    rotate_left
                    · intro w'
                      go_simp
                      with_reducible rfl
                    rotate_left
                    · simp only [Act.put, List.setIfInBounds_toArray, List.set_cons_zero, List.set_cons_succ, i64_w, i32_w]
                      rfl
                    refine pure_ (i := 8) (N := some 73) (v := ?_) (a' := ?_) #[true, false, true, false, false, true, false, false, true, false, false, false, false, false, false, false, false, false, false, false] rfl rfl (any_of HT_.out (by kernel_rfl)) (fun _ _ _ h => h) (Or.inl ⟨by rfl, ?_⟩) ?_ ?_
                    rotate_left
                    · intro w'
                      go_simp
                      with_reducible rfl
                    rotate_left
                    · simp only [Act.put, List.setIfInBounds_toArray, List.set_cons_zero, List.set_cons_succ, i64_w, i32_w]
                      rfl
                    refine pure_ (i := 10) (N := some 75) (v := ?_) (a' := ?_) #[true, false, true, false, false, true, false, false, true, false, true, false, false, false, false, false, false, false, false, false] rfl rfl (any_of HT_.out (by kernel_rfl)) (fun _ _ _ h => h) (Or.inl ⟨by rfl, ?_⟩) ?_ ?_
                    rotate_left
                    · intro w'
                      go_simp
                      with_reducible rfl
                    rotate_left
                    · simp only [Act.put, List.setIfInBounds_toArray, List.set_cons_zero, List.set_cons_succ, i64_w, i32_w]
                      rfl
                    refine pure_ (i := 12) (N := some 77) (v := ?_) (a' := ?_) #[true, false, true, false, false, true, false, false, true, false, true, false, true, false, false, false, false, false, false, false] rfl rfl (any_of HT_.out (by kernel_rfl)) (fun _ _ _ h => h) (Or.inl ⟨by rfl, ?_⟩) ?_ ?_
                    rotate_left
                    · intro w'
                      go_simp
                      with_reducible rfl
                    rotate_left
                    · simp only [Act.put, List.setIfInBounds_toArray, List.set_cons_zero, List.set_cons_succ, i64_w, i32_w]
                      rfl
                    refine pure_ (i := 15) (N := some 80) (v := ?_) (a' := ?_) #[true, false, true, false, false, true, false, false, true, false, true, false, true, false, false, true, false, false, false, false] rfl rfl (any_of HT_.out (by kernel_rfl)) (fun _ _ _ h => h) (Or.inl ⟨by rfl, ?_⟩) ?_ ?_
                    rotate_left
                    · intro w'
                      go_simp
                      with_reducible rfl
                    rotate_left
                    · simp only [Act.put, List.setIfInBounds_toArray, List.set_cons_zero, List.set_cons_succ, i64_w, i32_w]
                      rfl
                    refine take_ (i := 1) (N := some 66) (v := ?_) (a' := ?_) #[true, true, true, false, false, true, false, false, true, false, true, false, true, false, false, true, false, false, false, false] rfl rfl (take_ofW HT_.out HW_.out (by kernel_rfl)) (fun _ _ _ h => h) (Or.inl ⟨by rfl, ?_⟩) hHeld ?_ ?_
                    rotate_left
                    · rintro w' ⟨t0, t1, t2, t3, t4, t5⟩
                      go_simp
                      with_reducible rfl
                    rotate_left
                    · simp only [Act.put, List.setIfInBounds_toArray, List.set_cons_zero, List.set_cons_succ, i64_w, i32_w]
                      rfl
                    refine pure_ (i := 3) (N := some 68) (v := ?_) (a' := ?_) #[true, true, true, true, false, true, false, false, true, false, true, false, true, false, false, true, false, false, false, false] rfl rfl (any_of HT_.out (by kernel_rfl)) (fun _ _ _ h => h) (Or.inl ⟨by rfl, ?_⟩) ?_ ?_
                    rotate_left
                    · intro w'
                      go_simp
                      with_reducible rfl
                    rotate_left
                    · simp only [Act.put, List.setIfInBounds_toArray, List.set_cons_zero, List.set_cons_succ, i64_w, i32_w]
                      rfl
                    refine take_ (i := 4) (N := some 69) (v := ?_) (a' := ?_) #[true, true, true, true, true, true, false, false, true, false, true, false, true, false, false, true, false, false, false, false] rfl rfl (take_ofW HT_.out HW_.out (by kernel_rfl)) (fun _ _ _ h => h) (Or.inl ⟨by rfl, ?_⟩) hHeld ?_ ?_
                    rotate_left
                    · rintro w' ⟨t0, t1, t2, t3, t4, t5⟩
                      go_simp
                      with_reducible rfl
                    rotate_left
                    · simp only [Act.put, List.setIfInBounds_toArray, List.set_cons_zero, List.set_cons_succ, i64_w, i32_w]
                      rfl
                    refine pure_ (i := 6) (N := some 71) (v := ?_) (a' := ?_) #[true, true, true, true, true, true, true, false, true, false, true, false, true, false, false, true, false, false, false, false] rfl rfl (any_of HT_.out (by kernel_rfl)) (fun _ _ _ h => h) (Or.inl ⟨by rfl, ?_⟩) ?_ ?_
                    rotate_left
                    · intro w'
                      go_simp
                      with_reducible rfl
                    rotate_left
                    · simp only [Act.put, List.setIfInBounds_toArray, List.set_cons_zero, List.set_cons_succ, i64_w, i32_w]
                      rfl
                    refine take_ (i := 7) (N := some 72) (v := ?_) (a' := ?_) #[true, true, true, true, true, true, true, true, true, false, true, false, true, false, false, true, false, false, false, false] rfl rfl (take_ofW HT_.out HW_.out (by kernel_rfl)) (fun _ _ _ h => h) (Or.inl ⟨by rfl, ?_⟩) hHeld ?_ ?_
                    rotate_left
                    · rintro w' ⟨t0, t1, t2, t3, t4, t5⟩
                      go_simp
                      with_reducible rfl
                    rotate_left
                    · simp only [Act.put, List.setIfInBounds_toArray, List.set_cons_zero, List.set_cons_succ, i64_w, i32_w]
                      rfl
                    refine pure_ (i := 9) (N := some 74) (v := ?_) (a' := ?_) #[true, true, true, true, true, true, true, true, true, true, true, false, true, false, false, true, false, false, false, false] rfl rfl (any_of HT_.out (by kernel_rfl)) (fun _ _ _ h => h) (Or.inl ⟨by rfl, ?_⟩) ?_ ?_
                    rotate_left
                    · intro w'
                      go_simp
                      with_reducible rfl
                    rotate_left
                    · simp only [Act.put, List.setIfInBounds_toArray, List.set_cons_zero, List.set_cons_succ, i64_w, i32_w]
                      rfl
                    refine take_ (i := 11) (N := some 76) (v := ?_) (a' := ?_) #[true, true, true, true, true, true, true, true, true, true, true, true, true, false, false, true, false, false, false, false] rfl rfl (take_ofW HT_.out HW_.out (by kernel_rfl)) (fun _ _ _ h => h) (Or.inl ⟨by rfl, ?_⟩) hHeld ?_ ?_
                    rotate_left
                    · rintro w' ⟨t0, t1, t2, t3, t4, t5⟩
                      go_simp
                      with_reducible rfl
                    rotate_left
                    · simp only [Act.put, List.setIfInBounds_toArray, List.set_cons_zero, List.set_cons_succ, i64_w, i32_w]
                      rfl
                    refine pure_ (i := 13) (N := some 78) (v := ?_) (a' := ?_) #[true, true, true, true, true, true, true, true, true, true, true, true, true, true, false, true, false, false, false, false] rfl rfl (any_of HT_.out (by kernel_rfl)) (fun _ _ _ h => h) (Or.inl ⟨by rfl, ?_⟩) ?_ ?_
                    rotate_left
                    · intro w'
                      go_simp
                      with_reducible rfl
                    rotate_left
                    · simp only [Act.put, List.setIfInBounds_toArray, List.set_cons_zero, List.set_cons_succ, i64_w, i32_w]
                      rfl
                    refine take_ (i := 14) (N := some 79) (v := ?_) (a' := ?_) #[true, true, true, true, true, true, true, true, true, true, true, true, true, true, true, true, false, false, false, false] rfl rfl (take_ofW HT_.out HW_.out (by kernel_rfl)) (fun _ _ _ h => h) (Or.inl ⟨by rfl, ?_⟩) hHeld ?_ ?_
                    rotate_left
                    · rintro w' ⟨t0, t1, t2, t3, t4, t5⟩
                      go_simp
                      with_reducible rfl
                    rotate_left
                    · simp only [Act.put, List.setIfInBounds_toArray, List.set_cons_zero, List.set_cons_succ, i64_w, i32_w]
                      rfl
                    refine pure_ (i := 16) (N := some 81) (v := ?_) (a' := ?_) #[true, true, true, true, true, true, true, true, true, true, true, true, true, true, true, true, true, false, false, false] rfl rfl (any_of HT_.out (by kernel_rfl)) (fun _ _ _ h => h) (Or.inl ⟨by rfl, ?_⟩) ?_ ?_
                    rotate_left
                    · intro w'
                      go_simp
                      with_reducible rfl
                    rotate_left
                    · simp only [Act.put, List.setIfInBounds_toArray, List.set_cons_zero, List.set_cons_succ, i64_w, i32_w]
                      rfl
                    refine take_ (i := 17) (N := some 82) (v := ?_) (a' := ?_) #[true, true, true, true, true, true, true, true, true, true, true, true, true, true, true, true, true, true, false, false] rfl rfl (take_ofW HT_.out HW_.out (by kernel_rfl)) (fun _ _ _ h => h) (Or.inl ⟨by rfl, ?_⟩) hHeld ?_ ?_
                    rotate_left
                    · rintro w' ⟨t0, t1, t2, t3, t4, t5⟩
                      go_simp
                      with_reducible rfl
                    rotate_left
                    · simp only [Act.put, List.setIfInBounds_toArray, List.set_cons_zero, List.set_cons_succ, i64_w, i32_w]
                      rfl
                    refine pure_ (i := 18) (N := some 83) (v := ?_) (a' := ?_) #[true, true, true, true, true, true, true, true, true, true, true, true, true, true, true, true, true, true, true, false] rfl rfl (any_of HT_.out (by kernel_rfl)) (fun _ _ _ h => h) (Or.inl ⟨by rfl, ?_⟩) ?_ ?_
                    rotate_left
                    · intro w'
                      go_simp
                      with_reducible rfl
                    rotate_left
                    · simp only [Act.put, List.setIfInBounds_toArray, List.set_cons_zero, List.set_cons_succ, i64_w, i32_w]
                      rfl
                    refine pure_ (i := 19) (N := some 16) (v := ?_) (a' := ?_) #[true, true, true, true, true, true, true, true, true, true, true, true, true, true, true, true, true, true, true, true] rfl rfl (any_of HT_.out (by kernel_rfl)) (fun _ _ _ h => h) (Or.inl ⟨by rfl, ?_⟩) ?_ ?_
                    rotate_left
                    · intro w'
                      go_simp
                      with_reducible rfl
                    rotate_left
                    · simp only [Act.put, List.setIfInBounds_toArray, List.set_cons_zero, List.set_cons_succ, i64_w, i32_w]
                      rfl
                    refine done_ (done_of HT_.out (by kernel_rfl)) ?_
                    clear HT_ HW_ hHeld p2 q2 p3 q3 ew1 ew2
                    by_cases hmem : y ∈ L
                    ·
                      obtain ⟨kq1, hf1⟩ := (find_ev L y (by have := HLL.out; omega)).rounds
                      have hrun := HRUN.out
                      rw [add_in hmem] at hrun
                      rw [find_in hmem, ← num_pre hmem ((adds_pre _ _).trans hrun.pre)] at hf1
                      have hnn : 0 ≤ num R y := by rw [num_eq (((adds_pre _ _).trans hrun.pre).subset hmem)]; omega
                      have HRUN := Aside0.mk hrun
                      generalize num R y = ny at hf1 HROWN hnn
                      have HF1 := Aside0.mk hf1
                      have knn : (ny < 0) = False := eq_false (by omega)
                      have knd : decide (ny < 0) = false := decide_eq_false (by omega)
                      clear hf1 hrun hmem hnn
                      go_wp2_with (first
                        | (go_at_call 63; (with_reducible refine (spec_l5Find.calls kq1 _ _ L y ny _ ?fa6 ?fb6 HF1.out).mono ?_); (case fa6 => exact (Kd.R_reads' HM5.out.list).2.2); (case fb6 => exact (Kd.R_reads' HM5.out.list).2.1); rintro e w' ⟨rfl, ⟨nd, rfl⟩⟩; have hdw := pw_below_drewN (Below.refl (World.heap w8).size w8) nd; have HM6 := Aside0.mk (HM5.out.below hdw); have HROW6 := Aside0.mk (Kd.R_below HROW5.out hdw); have HSW6 := Aside0.mk (Nat.le_trans HSW5.out hdw.size); clear hdw; generalize World.drewN w8 nd = w9 at HM6 HROW6 HSW6 ⊢)
                        | (go_at_call 63; (with_reducible refine (spec_l5Find.calls kq1 _ _ L y ny _ ?fa7 ?fb7 HF1.out).mono ?_); (case fa7 => exact (Kd.R_reads' HM6.out.list).2.2); (case fb7 => exact (Kd.R_reads' HM6.out.list).2.1); rintro e w' ⟨rfl, ⟨nd, rfl⟩⟩; have hdw := pw_below_drewN (Below.refl (World.heap w9).size w9) nd; have HM7 := Aside0.mk (HM6.out.below hdw); have HROW7 := Aside0.mk (Kd.R_below HROW6.out hdw); have HSW7 := Aside0.mk (Nat.le_trans HSW6.out hdw.size); clear hdw; generalize World.drewN w9 nd = w10 at HM7 HROW7 HSW7 ⊢)
                        | (at_builtin; refine Kd.R_append (Kd.int .i64) (w0 := V) V.heap.size rfl (.tmp 92) (.tmp 96) 67 3 (.int .i64 0) 8 rfl Try.underlying67 info3 rfl (by decide) (by omega) (.slice A14 row.length c14) row ny [.int .i64 ny] (fun k => True ∧ some k ≠ (Value.slice A10 L.length c10).ownBlock) (fun _ => False) rfl rfl ?aP (fun _ hk => hk.elim) ?aF ?aO ?aB ?aS ?aL ?_; (case aP => exact rfl); (case aO => exact HROW7.out); (case aF => exact (fun k hk => ⟨trivial, fun he => by have h_ := Kd.R_lt HM7.out.list k he.symm; omega⟩)); (case aB => exact HM7.out.bel); (case aS => exact HM7.out.bel.size); (case aL => have := HROL.out; omega); intro v14n w11 ho hb hg hat; have HROWZ := Aside0.mk ho; have HMZ := Aside0.mk (HM7.out.rowed HROW7.out hg hat (fun k hk he => by have h_ := HOB.out k he.symm; have h2_ := hk.1; omega) hb); have HOBZ := Aside0.mk (own_at hat HOB.out HSW7.out); have HSWZ := Aside0.mk (Nat.le_trans HSW7.out hg.size); clear ho hb hg hat))
                      go_roundg g3
                      case measure => omega
                      case rel => exact ⟨L, row ++ [ny], j + 1, by rw [up1 (by have := HJ3.out; omega)], ⟨HJ3.out⟩, ⟨by have := HGJ.out; omega⟩, HRUN, HLI, ⟨HROWN.out.symm⟩, HMZ, HROWZ, HOBZ, HSWZ⟩
                    ·
                      obtain ⟨kq1, hf1⟩ := (find_ev L y (by have := HLL.out; omega)).rounds
                      obtain ⟨kq2, hf2⟩ := (find_ev (L ++ [y]) y (by have := HLL.out; simp; omega)).rounds
                      have hrun := HRUN.out
                      rw [add_out hmem] at hrun
                      have hm2 : y ∈ L ++ [y] := by simp
                      rw [find_in hm2, ← num_pre hm2 ((adds_pre _ _).trans hrun.pre)] at hf2
                      have e1 : findOf L y = -1 := by unfold findOf; rw [if_neg hmem]
                      rw [e1] at hf1
                      have HRUN := Aside0.mk hrun
                      generalize num R y = ny at hf2 HROWN
                      have HF1 := Aside0.mk hf1
                      have HF2 := Aside0.mk hf2
                      have HLL2 : Aside0 (i < L.length) := ⟨(List.getElem?_eq_some_iff.mp HLI.out).1⟩
                      clear hf1 hf2 hrun hmem e1 hm2
                      go_wp2_with (first
                        | (go_at_call 63; (with_reducible refine (spec_l5Find.calls kq1 _ _ L y (-1) _ ?fa6 ?fb6 HF1.out).mono ?_); (case fa6 => exact (Kd.R_reads' HM5.out.list).2.2); (case fb6 => exact (Kd.R_reads' HM5.out.list).2.1); rintro e w' ⟨rfl, ⟨nd, rfl⟩⟩; have hdw := pw_below_drewN (Below.refl (World.heap w8).size w8) nd; have HM6 := Aside0.mk (HM5.out.below hdw); have HROW6 := Aside0.mk (Kd.R_below HROW5.out hdw); have HSW6 := Aside0.mk (Nat.le_trans HSW5.out hdw.size); clear hdw; generalize World.drewN w8 nd = w9 at HM6 HROW6 HSW6 ⊢)
                        | (go_at_call 63; (with_reducible refine (spec_l5Find.calls kq2 _ _ L2 y ny _ ?fa8 ?fb8 HF3.out).mono ?_); (case fa8 => exact (Kd.R_reads' HM7.out.list).2.2); (case fb8 => exact (Kd.R_reads' HM7.out.list).2.1); rintro e w' ⟨rfl, ⟨nd, rfl⟩⟩; have hdw := pw_below_drewN (Below.refl (World.heap w10).size w10) nd; have HM8 := Aside0.mk (HM7.out.below hdw); have HROW8 := Aside0.mk (Kd.R_below HROW7.out hdw); have HSW8 := Aside0.mk (Nat.le_trans HSW7.out hdw.size); clear hdw; generalize World.drewN w10 nd = w11 at HM8 HROW8 HSW8 ⊢)
                        | (at_builtin; refine Kd.R_append (Kd.int .i64) (w0 := V) V.heap.size rfl (.tmp 88) (.tmp 90) 67 3 (.int .i64 0) 8 rfl Try.underlying67 info3 rfl (by decide) (by omega) (.slice A10 L.length c10) L y [.int .i64 y] (fun k => True ∧ some k ≠ (Value.slice A14 row.length c14).ownBlock) (fun _ => False) rfl rfl ?bP (fun _ hk => hk.elim) ?bF ?bO ?bB ?bS ?bL ?_; (case bP => exact rfl); (case bO => exact HM6.out.list); (case bF => exact (fun k hk => ⟨trivial, fun he => by have h_ := Kd.R_lt HROW6.out k he.symm; omega⟩)); (case bB => exact HM6.out.bel); (case bS => exact HM6.out.bel.size); (case bL => have := HLL.out; omega); intro v10n w10 ho hb hg hat; obtain ⟨L2, hL2⟩ : ∃ L2 : List Int, L2 = L ++ [y] := ⟨_, rfl⟩; rw [← hL2] at ho; have HF3 : Aside0 (spec_l5Find.f kq2 L2 y = some ny) := ⟨by rw [hL2]; exact HF2.out⟩; have HL2 := Aside0.mk hL2; clear hL2; have HM7 := Aside0.mk (HM6.out.listed hg hat ho hb); have HROW7 := Aside0.mk (Kd.R_after HROW6.out hg hat); have HSW7 := Aside0.mk (Nat.le_trans HSW6.out hg.size); obtain ⟨A10n, c10n, e10n⟩ := Kd.R_slice ho; subst e10n; clear ho hb hg hat)
                        | (at_builtin; refine Kd.R_append (Kd.int .i64) (w0 := V) V.heap.size rfl (.tmp 92) (.tmp 96) 67 3 (.int .i64 0) 8 rfl Try.underlying67 info3 rfl (by decide) (by omega) (.slice A14 row.length c14) row ny [.int .i64 ny] (fun k => True ∧ some k ≠ (Value.slice A10n L2.length c10n).ownBlock) (fun _ => False) rfl rfl ?aP (fun _ hk => hk.elim) ?aF ?aO ?aB ?aS ?aL ?_; (case aP => exact rfl); (case aO => exact HROW8.out); (case aF => exact (fun k hk => ⟨trivial, fun he => by have h_ := Kd.R_lt HM8.out.list k he.symm; omega⟩)); (case aB => exact HM8.out.bel); (case aS => exact HM8.out.bel.size); (case aL => have := HROL.out; omega); intro v14n w12 ho hb hg hat; have HROWZ := Aside0.mk ho; have HMZ := Aside0.mk (HM8.out.rowed HROW8.out hg hat (fun k hk he => by have h_ := HOB.out k he.symm; have h2_ := hk.1; omega) hb); have HOBZ := Aside0.mk (own_at hat HOB.out HSW8.out); have HSWZ := Aside0.mk (Nat.le_trans HSW8.out hg.size); clear ho hb hg hat))
                      go_roundg g3
                      case measure => omega
                      case rel => exact ⟨L2, row ++ [ny], j + 1, by rw [up1 (by have := HJ3.out; omega)], ⟨HJ3.out⟩, ⟨by have := HGJ.out; omega⟩, ⟨by rw [HL2.out]; exact HRUN.out⟩, ⟨by rw [HL2.out, List.getElem?_append_left HLL2.out]; exact HLI.out⟩, ⟨HROWN.out.symm⟩, HMZ, HROWZ, HOBZ, HSWZ⟩
                  ·
                    have ej : j = 3 := by have := HJ.out; omega
                    subst ej
                    have d3 : decide (((3 : Nat) : Int) < 3) = false := by decide
                    have hrun : Runs (sc (nxZ l1 m1 m0.length)) L (i + 1) R := HRUN.out
                    have HRUN := Aside0.mk hrun
                    have hrowx : row = rowX (nxZ l1 m1 m0.length) R z := by rw [HRW.out]; rfl
                    have hi2 : i < L.length := (List.getElem?_eq_some_iff.mp HLI.out).1
                    have hRt : R.take (i + 1) = R.take i ++ [z] := by
                      obtain ⟨h1, h2⟩ := List.getElem?_eq_some_iff.mp HRI.out
                      rw [List.take_succ_eq_append_getElem h1, h2]
                    obtain ⟨_, e1, hu0⟩ := Kd.at_bool HC0.out pp HP.out.1 HP.out.2
                    cases e1
                    obtain ⟨_, e2, hv0⟩ := Kd.at_bool HD0.out qq HQ.out.1 HQ.out.2
                    cases e2
                    have hac : acZ kd l0 m0 z = bothB kd (rdOf false l0 pp) (rdOf false m0 qq) := by unfold acZ; rw [HPP.out, HQQ.out]
                    have hb6 : ∀ u v, bothB kd u v = bothB _ u v := fun u v => by rw [HKD.out]
                    rw [hb6] at hac
                    clear hb6
                    have hu0 := pw_cell_below HBW.out hu0
                    have hv0 := pw_cell_below HBW.out hv0
                    have kA := pw_cell_below HM4.out.bel hc0.out
                    have kB := pw_cell_below HM4.out.bel hc2.out
                    have hz0 : World.cell? wr ⟨V.heap.size, 0, none⟩ = some (.slice Aa xa.length ca) := (blk_cell HM4.out.box 0).trans rfl
                    have hz1 : World.cell? wr ⟨V.heap.size, 1, none⟩ = some (.slice Ay xy.length cy) := (blk_cell HM4.out.box 1).trans rfl
                    have hfz0 := blk_frozen HM4.out.box 0
                    have p2 : ((0 : Int) ≤ pp) = True := eq_true HP.out.1
                    have q2 : (pp < (l0.length : Int)) = True := eq_true HP.out.2
                    have p3 : ((0 : Int) ≤ qq) = True := eq_true HQ.out.1
                    have q3 : (qq < (m0.length : Int)) = True := eq_true HQ.out.2
                    have HLENS : Aside0 (xa.length ≤ 1000000 ∧ xy.length ≤ 1000000) := ⟨by rw [HXA.out, HXY.out]; simp; have := HR16.out; omega⟩
                    have HI5 := Aside0.mk hi2
                    have HII : Aside0 (i ≤ 1600) := ⟨by have := HR16.out; omega⟩
                    have HRX := Aside0.mk hrowx
                    have HRT := Aside0.mk hRt
                    clear hj hrun hrowx hi2 hRt hpre hlr
                    generalize rdOf false l0 pp = uu at hu0 hac
                    generalize rdOf false m0 qq = vv at hv0 hac
                    cases uu <;> cases vv
                    all_goals
                      simp only [bothB, Int.reduceEq, ↓reduceIte, if_true, if_false, Bool.or_false, Bool.or_true, Bool.and_false, Bool.and_true, Bool.false_or, Bool.true_or, Bool.or_self, Bool.and_self] at hac
                      have HAC := Aside0.mk hac
                      clear hac
                      go_wp2_with (first
                        | ((with_reducible refine gate_builtin (b := .append) (xs := #[.tmp 125, .tmp 127]) rfl ?_); at_builtin; refine Kd.R_append Kd.bool (w0 := V) V.heap.size rfl (.tmp 125) (.tmp 127) 22 4 (.bool false) 1 rfl Try.underlying22 info4 rfl (by decide) (by omega) (.slice Aa xa.length ca) xa true [.bool true] (fun _ => True) (fun _ => False) rfl rfl ?aP (fun _ hk => hk.elim) ?aF ?aO ?aB ?aS ?aL ?_; (case aP => exact rfl); (case aF => exact (fun _ _ => trivial)); (case aO => exact HM4.out.acc); (case aB => exact HM4.out.bel); (case aS => exact HM4.out.bel.size); (case aL => have := HLENS.out; omega); intro v22 w9 ho hb hg hat; have HM9 := Aside0.mk (HM4.out.accd hg ho hb); have HROW9 := Aside0.mk (Kd.R_over' HROW4.out (Kd.R_typed HM4.out.acc) (by decide) hg); obtain ⟨A22, c22, e22⟩ := Kd.R_slice ho; rw [List.length_append, List.length_singleton] at e22; subst e22; have hcz0 : World.cell? w9 ⟨V.heap.size, 0, none⟩ = some (.slice Aa xa.length ca) := (blk_cell HM9.out.box 0).trans rfl; have hfz0 := blk_frozen HM9.out.box 0; clear ho hb hg hat)
                        | ((with_reducible refine gate_builtin (b := .append) (xs := #[.tmp 125, .tmp 127]) rfl ?_); at_builtin; refine Kd.R_append Kd.bool (w0 := V) V.heap.size rfl (.tmp 125) (.tmp 127) 22 4 (.bool false) 1 rfl Try.underlying22 info4 rfl (by decide) (by omega) (.slice Aa xa.length ca) xa false [.bool false] (fun _ => True) (fun _ => False) rfl rfl ?bP (fun _ hk => hk.elim) ?bF ?bO ?bB ?bS ?bL ?_; (case bP => exact rfl); (case bF => exact (fun _ _ => trivial)); (case bO => exact HM4.out.acc); (case bB => exact HM4.out.bel); (case bS => exact HM4.out.bel.size); (case bL => have := HLENS.out; omega); intro v22 w9 ho hb hg hat; have HM9 := Aside0.mk (HM4.out.accd hg ho hb); have HROW9 := Aside0.mk (Kd.R_over' HROW4.out (Kd.R_typed HM4.out.acc) (by decide) hg); obtain ⟨A22, c22, e22⟩ := Kd.R_slice ho; rw [List.length_append, List.length_singleton] at e22; subst e22; have hcz0 : World.cell? w9 ⟨V.heap.size, 0, none⟩ = some (.slice Aa xa.length ca) := (blk_cell HM9.out.box 0).trans rfl; have hfz0 := blk_frozen HM9.out.box 0; clear ho hb hg hat)
                        | ((with_reducible refine gate_store (t := 22) (p := 129) rfl ?_); refine store_event (t := 22) (p := 129) (v := ?vo_w1) (w1 := (w9.setCell ⟨V.heap.size, 0, none⟩ (.slice A22 (xa.length + 1) c22))) ?hg ?ho ?hn ?hr ?_; (case ho => rfl); (case hg => rfl); (case hn => rfl); (case hr => first | (go_simp; done) | (go_simp; rfl)); intro w1 hw; have HM1 := Aside0.mk (HM9.out.put (v := (.slice A22 (xa.length + 1) c22)) H69.out (Nat.le_refl _) 0 (blk_put HM9.out.box 0 _ rfl)); have HROW1 := Aside0.mk (Kd.R_set HROW9.out HM9.out.box (by decide) 0 (.slice A22 (xa.length + 1) c22)); rw [← hw] at HM1 HROW1; have hcz1 : World.cell? w1 ⟨V.heap.size, 1, none⟩ = some (.slice Ay xy.length cy) := (blk_cell HM1.out.box 1).trans rfl; clear hw)
                        | ((with_reducible refine gate_builtin (b := .append) (xs := #[.tmp 131, .tmp 133]) rfl ?_); at_builtin; refine Kd.S_append (Kd.slice 3 (Kd.int .i64)) (w0 := V) V.heap.size rfl (.tmp 131) (.tmp 133) 23 67 (.slice none 0 0) 24 rfl Try.underlying23 info67 rfl (by decide) (by omega) (.slice Ay xy.length cy) xy row [.slice A14 row.length c14] (fun k => True ∧ some k ≠ (Value.slice A10 L.length c10).ownBlock) (fun b => some b = (.slice A14 row.length c14 : Value).ownBlock) rfl rfl ?sP ?sK ?sF ?sO ?sB ?sS ?sL ?_; (case sP => exact Kd.M_row (Kd.R_tight rfl HROW1.out)); (case sK => exact (fun b hb => ⟨⟨trivial, (HROW1.out.1 b hb.symm).2⟩, fun he => by have h1 := HOB.out b hb.symm; have h2 := ((Kd.S_R HM1.out.rows).1 b he.symm).1; omega⟩)); (case sF => exact (fun k hk => ⟨trivial, fun he => by have h_ := Kd.R_lt HM1.out.list k he.symm; omega⟩)); (case sO => exact Kd.S_mono HM1.out.rows (fun b hb => ⟨⟨trivial, hb.2⟩, fun he => by have h1 := HOB.out b he.symm; have h2 := hb.1; omega⟩)); (case sB => exact HM1.out.bel); (case sS => exact HM1.out.bel.size); (case sL => have := HLENS.out; omega); intro v23 w2 ho hb hg hat; have HM2 := Aside0.mk (HM1.out.rowsd hg ho hb); obtain ⟨A23, c23, e23⟩ := Kd.S_slice ho; rw [List.length_append, List.length_singleton] at e23; subst e23; clear ho hb hg hat; have hcz1 : World.cell? w2 ⟨V.heap.size, 1, none⟩ = some (.slice Ay xy.length cy) := (blk_cell HM2.out.box 1).trans rfl; have hfz1 := blk_frozen HM2.out.box 1))
                      go_roundg g
                      case measure => omega
                      case rel =>
                        have HM3 := HM2.out.put (v := (.slice A23 (xy.length + 1) c23)) H69.out (Nat.le_refl _) 1 (blk_put HM2.out.box 1 _ rfl)
                        exact ⟨L, i + 1, _, _, _, _, by rw [up1 (by have := HII.out; omega)], ⟨HI5.out⟩, ⟨by have := HG.out; omega⟩, HRUN, ⟨by rw [HRT.out, List.map_append, ← HXA.out, List.map_singleton, HAC.out]⟩, ⟨by rw [HRT.out, List.map_append, ← HXY.out, List.map_singleton, ← HRX.out]⟩, ⟨Kd.R_mono HM3.list (fun _ _ => trivial), HM3.acc, HM3.rows, HM3.box, HM3.res, HM3.bel⟩⟩
              ·
                have eL : L = R := by
                  cases HRUN.out with
                  | stop h => rfl
                  | step h _ => exact absurd h hi
                subst eL
                have ei : i = L.length := by have := HI.out; omega
                subst ei
                have hxa := HXA.out
                have hxy := HXY.out
                rw [List.take_length] at hxa hxy
                have hkf := HKF.out
                first | rw [← hxa, ← hxy] at hkf | (rw [HKD.out] at hxa; rw [← hxa, ← hxy] at hkf)
                have HKF2 := Aside0.mk hkf
                have q1 : ((L.length : Int) < (L.length : Int)) = False := eq_false (by omega)
                have hz0 : World.cell? wr ⟨V.heap.size, 0, none⟩ = some (.slice Aa xa.length ca) := (blk_cell HMEM.out.box 0).trans rfl
                have hz1 : World.cell? wr ⟨V.heap.size, 1, none⟩ = some (.slice Ay xy.length cy) := (blk_cell HMEM.out.box 1).trans rfl
                have HBW := Aside0.mk (below_then HB.out HB.out.size HMEM.out.bel)
                clear hi hpre hlr hxa hxy hkf HKF HXA HXY HRUN HI HG
                go_wp2_with ((go_at_call 64; (with_reducible refine (spec_l5Fits.calls kf _ _ xa _ _ xy f1 f2 f3 _ ?y0 ?y1 ?y2 ?y3 HKF2.out).mono ?_); (case y0 => exact (Kd.R_reads' HMEM.out.acc).2.2); (case y1 => exact (Kd.R_reads' HMEM.out.acc).2.1); (case y2 => exact (Kd.S_reads' HMEM.out.rows).2.2); (case y3 => exact (Kd.S_reads' HMEM.out.rows).2.1); rintro e w5 ⟨z0, z1, rfl, hq0, hq1, hb⟩; obtain ⟨Z0, z0c, e0⟩ := Kd.R_slice hq0; subst e0; obtain ⟨Z1, z1c, e1⟩ := Kd.S_slice hq1; subst e1; have HR5 := Aside0.mk (blk_alloc (blk_below HMEM.out.res hb) (Obj.cells #[.slice Z0 f1.length z0c, .slice Z1 f2.length z1c] 27)); have HB5 := Aside0.mk (below_alloc (below_then HBW.out HBW.out.size hb) (Obj.cells #[.slice Z0 f1.length z0c, .slice Z1 f2.length z1c] 27)); have HZ0 := Aside0.mk (Kd.R_alloc (Kd.R_lower hq0 HBW.out.size) (Obj.cells #[.slice Z0 f1.length z0c, .slice Z1 f2.length z1c] 27)); have HZ1 := Aside0.mk (Kd.S_alloc (Kd.S_lower hq1 HBW.out.size) (Obj.cells #[.slice Z0 f1.length z0c, .slice Z1 f2.length z1c] 27)); have hcy0 : World.cell? (w5.alloc (Obj.cells #[.slice Z0 f1.length z0c, .slice Z1 f2.length z1c] 27)) ⟨w.heap.size + 1 + 1, 0, none⟩ = some (.slice none 0 0) := (blk_cell HR5.out 0).trans rfl; have hcy1 : World.cell? (w5.alloc (Obj.cells #[.slice Z0 f1.length z0c, .slice Z1 f2.length z1c] 27)) ⟨w.heap.size + 1 + 1, 1, none⟩ = some (.slice none 0 0) := (blk_cell HR5.out 1).trans rfl; have hfy0 := blk_frozen HR5.out 0; have hfy1 := blk_frozen HR5.out 1; clear hz0 hz1 hq0 hq1 hb))
                have HB4' : Aside0 (((w5.alloc (Obj.cells #[.slice Z0 f1.length z0c, .slice Z1 f2.length z1c] 27)).setCell ⟨w.heap.size + 1 + 1, 0, none⟩ (.slice Z0 f1.length z0c)).heap[w.heap.size + 1 + 1]? = some (.cells #[.slice Z0 f1.length z0c, .slice none 0 0] 27 (0, 0))) := ⟨blk_put HR5.out 0 _ rfl⟩
                have HT4 : Aside0 ((((w5.alloc (Obj.cells #[.slice Z0 f1.length z0c, .slice Z1 f2.length z1c] 27)).setCell ⟨w.heap.size + 1 + 1, 0, none⟩ (.slice Z0 f1.length z0c)).setCell ⟨w.heap.size + 1 + 1, 1, none⟩ (.slice Z1 f2.length z1c)).heap[w.heap.size + 1 + 1]? = some (.cells #[.slice Z0 f1.length z0c, .slice Z1 f2.length z1c] 27 (0, 0))) := ⟨blk_put HB4'.out 1 _ rfl⟩
                refine bodyPost_ret (results_ct rfl _ _ (w.heap.size + 1 + 1) 27 #[.slice Z0 f1.length z0c, .slice Z1 f2.length z1c] (0, 0) _ rfl HT4.out Try.underlying27 rfl (by kernel_rfl)) rfl ?_
                exact ⟨_, _, rfl, Kd.R_set (Kd.R_set HZ0.out HR5.out (by decide) 0 _) HB4'.out (by decide) 1 _, Kd.S_set (Kd.S_set HZ1.out HR5.out (by decide) 0 _) HB4'.out (by decide) 1 _, below_set (below_set HB5.out HGE.out) HGE.out⟩
      · have e : pdR l0 l1 m0 m1 kind = ([], [], false) := by unfold pdR; rw [if_neg]; rintro ⟨_, h⟩; exact hkk h
        rw [e]
        subst hOA hOB hOD
        have k6 : (kind = 6) = False := eq_false (fun h => hkk (Or.inl h))
        have k7 : (kind = 7) = False := eq_false (fun h => hkk (Or.inr h))
        have k6b : (kind == 6) = false := beq_eq_false_iff_ne.mpr (fun h => hkk (Or.inl h))
        have k7b : (kind == 7) = false := beq_eq_false_iff_ne.mpr (fun h => hkk (Or.inr h))
        have k6c : (kind != 6) = true := by rw [bne, k6b]; rfl
        have k7c : (kind != 7) = true := by rw [bne, k7b]; rfl
        have k6d : decide (kind = 6) = false := decide_eq_false (fun h => hkk (Or.inl h))
        have k7d : decide (kind = 7) = false := decide_eq_false (fun h => hkk (Or.inr h))
        clear hv hv2 e hr0 hr1 hs0 hs1 hkk hka hkb hc0 hc1 hd0 hd1 z0 z1 z2 z3
        go_enter Try.func19, Try.ntmps19
        go_wp2_with (first | (go_at_call 35; (with_reducible refine (HV.out _ ?hq0).mono ?_); (case hq0 => exact HB0.out); rintro e w1 ⟨rfl, hb⟩; have HB1 := Aside0.mk (below_then HB0.out HB0.out.size hb); have HR1 := Aside0.mk (blk_below HR8.out hb); have ha0 := Aside0.mk (pw_cell_below hb KA0.out); have ha1 := Aside0.mk (pw_cell_below hb KA1.out); have hb0 := pw_cell_below hb KB0.out; have hb1 := pw_cell_below hb KB1.out; clear hb) | (go_at_call 35; (with_reducible refine (HV2.out _ ?hq1).mono ?_); (case hq1 => exact HB1.out); rintro e V ⟨rfl, hb⟩; have HB := Aside0.mk (below_then HB1.out HB1.out.size hb); have HR9 := Aside0.mk (blk_below HR1.out hb); have hc0 := Aside0.mk (pw_cell_below hb ha0.out); have hc1 := Aside0.mk (pw_cell_below hb ha1.out); have hc2 := pw_cell_below hb hb0; have hc3 := Aside0.mk (pw_cell_below hb hb1); have hcz0 : World.cell? V ⟨w.heap.size + 1 + 1, 0, none⟩ = some (.slice none 0 0) := (blk_cell HR9.out 0).trans rfl; have hcz1 : World.cell? V ⟨w.heap.size + 1 + 1, 1, none⟩ = some (.slice none 0 0) := (blk_cell HR9.out 1).trans rfl; have hfz0 := blk_frozen HR9.out 0; have hfz1 := blk_frozen HR9.out 1; clear hb hb0 hb1))
        have HT4 : Aside0 (((V.setCell ⟨w.heap.size + 1 + 1, 0, none⟩ (.slice none 0 0)).setCell ⟨w.heap.size + 1 + 1, 1, none⟩ (.slice none 0 0)).heap[w.heap.size + 1 + 1]? = some (.cells #[.slice none 0 0, .slice none 0 0] 27 (0, 0))) := ⟨blk_put (blk_put (cs' := #[.slice none 0 0, .slice none 0 0]) HR9.out 0 _ rfl) 1 _ rfl⟩
        refine bodyPost_ret (results_ct rfl _ _ (w.heap.size + 1 + 1) 27 #[.slice none 0 0, .slice none 0 0] (0, 0) _ rfl HT4.out Try.underlying27 rfl (by kernel_rfl)) rfl ?_
        exact ⟨_, _, rfl, Kd.R_nil _ _ _ _ _, Kd.S_nil _ _ _ _ _, below_set (below_set HB.out HGE.out) HGE.out⟩
end Go.Proofs.Ytogamkblkoobkaa.Wk
end
