/- Texts of the proof of FnExactProductDfa, put together. No condition. -/
import Derived.Test.YtogamkblkoobkaaQFnExactProductDfa4
import Derived.Shelf.Abstract
import Derived.Lib.Walk
import Derived.Test.YtogamkblkoobkaaQFnExactProductDfa6
import Derived.Test.YtogamkblkoobkaaQFnExactProductDfa2
import Derived.Test.YtogamkblkoobkaaQFnExactProductDfa5
section
namespace Go.Proofs.Ytogamkblkoobkaa.Bf
open Go.RowKit Go.Proofs.Ytogamkblkoobkaa.Pl Go.Proofs.Ytogamkblkoobkaa.Mp Go.Proofs.YtogamkblkoobkaaW.PrintWords Go.Proofs.YtogamkblkoobkaaW.PrintLast Go.Proofs.YtogamkblkoobkaaW.PrintMore
set_option linter.unusedVariables false
set_option linter.unusedSimpArgs false
set_option linter.unusedSectionVars false
section
variable {α : Type} [DecidableEq α]
def exRow (nx : α → Nat → α) (most : Nat) (x : α) : Nat → Nat → List α → List Int → Option (List α × List Int)
  | 0, _, L, row => some (L, row)
  | d + 1, j, L, row => if nx x j ∈ L then exRow nx most x d (j + 1) L (row ++ [(idx L (nx x j)).getD 0]) else if most < L.length + 1 then none else exRow nx most x d (j + 1) (L ++ [nx x j]) (row ++ [(L.length : Int)])
abbrev Ex (α : Type) := List α × List Bool × List (List Int)
def expl (acc : α → Bool) (nx : α → Nat → α) (most : Nat) : Nat → Ex α → Nat → Option (Ex α)
  | 0, p, _ => some p
  | d + 1, p, i => if h : i < p.1.length then (exRow nx most p.1[i] 3 0 p.1 []).bind (fun q => expl acc nx most d (q.1, p.2.1 ++ [acc p.1[i]], p.2.2 ++ [q.2]) (i + 1)) else some p
end
end Go.Proofs.Ytogamkblkoobkaa.Bf
end
section
namespace Go.Proofs.Ytogamkblkoobkaa.Wk
open Go.RowKit Go.Shelf Go.Proofs.Ytogamkblkoobkaa.P Go.Proofs.Ytogamkblkoobkaa.Pl Go.Proofs.Ytogamkblkoobkaa.Mp Go.Proofs.Ytogamkblkoobkaa.Bf Go.Proofs.Ytogamkblkoobkaa.Mn Go.Proofs.YtogamkblkoobkaaW.PrintWords Go.Proofs.YtogamkblkoobkaaW.PrintLast Go.Proofs.YtogamkblkoobkaaW.PrintMore
set_option linter.unusedVariables false
set_option linter.unusedSimpArgs false
theorem results_ctt {P : Program} {fn : Func} {p u v : Tmp} {ty : TypeId} (h : fn.results = #[.cell p ty, .tmp u, .tmp v]) (tmps : Array Value) (w : World) (g : Nat) (t : TypeId) (cs : Array Value) (fr : Nat × Nat) (d : TypeDesc)
    (hp : tmps.getD p undef = .pointer (some ⟨g, 0, none⟩)) (hg : w.heap[g]? = some (.cells cs t fr))
    (hu : P.underlying ty = some d) (hd : (match d with | .struct _ | .array _ _ => true | _ => false) = true) (hi : (P.info? ty).map (·.size) = some cs.size) :
    (results fn tmps).run P w = .ok (.tuple #[.agg cs, tmps.getD u undef, tmps.getD v undef]) w := by
  have hp' : tmps[p]?.getD undef = .pointer (some ⟨g, 0, none⟩) := by simpa using hp
  simp [results, h, hp', asAddr, run_loadVar_row w g t ty cs fr d hg hu hd hi]
theorem S_over_map {P : Program} {k e : TypeId} {q : IntKind} {α β : Type} {enc : α → Value} {okk : α → Prop} {w w' : World} {b c : Nat} {m : α → Option Int} {d : Kd β} {e' base : Nat} {ok : Nat → Prop} {v : Value} {xs : List β} (h : Kd.S d e' w base ok v xs) (hM : MapIs P k e q enc okk w b m c) (hg : w.grownBy w' (some b)) : Kd.S d e' w' base ok v xs := by
  obtain ⟨f, h⟩ := h
  exact ⟨f, R_over_map h hM hg⟩
theorem map_ne {P : Program} {k e : TypeId} {q : IntKind} {α : Type} {enc : α → Value} {okk : α → Prop} {w : World} {b c g : Nat} {m : α → Option Int} {t : TypeId} {cells : Array Value} (hM : MapIs P k e q enc okk w b m c) (h : w.heap[g]? = some (.cells cells t (0, 0))) : some g ≠ some b := by
  obtain ⟨D, ⟨es, clock, hb, _⟩, _⟩ := hM
  intro he
  injection he with he
  subst he
  rw [h] at hb
  cases hb
def T21x : Bool × List (List Nat × List Nat) := (true, [([], []), ([0], [0]), ([], []), ([], []), ([], []), ([3, 4], [3, 4]), ([5], [5]), ([2, 6], [2, 6]), ([7], [7]), ([1, 8, 7], [1, 8]), ([0, 1, 2, 3, 4, 5, 6, 7, 8, 9], []), ([10, 9, 9, 0, 1, 2, 3, 4, 5, 6, 7, 8, 9], [9, 10])])
def B21x : List Nat := [0, 1, 0, 0, 0, 24, 56, 124, 252, 511, 1023, 2047]
theorem tab21x : rtab .any (opsOf Try.f65 21) = T21x := by kernel_rfl
theorem bits21x : waitsOk T21x.2 B21x = true := by kernel_rfl
structure MemX (w w' : World) (ok : Nat → Prop) (vl : Value) (gm g8 g13 : Nat) (L Lm : List Pr) (A : List Bool) (M : List (List Int)) (u0 u1 b0 b1 : Value) : Prop where
  list : Kd.R kdP 72 w' w.heap.size (fun _ => True) vl L
  map : IsMP w' gm (idx Lm) Lm.length
  acc : Kd.R Kd.bool 4 w' w.heap.size (fun _ => True) u0 A
  rows : Kd.S (Kd.slice 3 (Kd.int .i64)) 67 w' w.heap.size ok u1 M
  box : w'.heap[g13]? = some (.cells #[b0, b1] 27 (0, 0))
  res : w'.heap[g8]? = some (.cells #[.slice none 0 0, .slice none 0 0] 27 (0, 0))
  bel : Below w.heap.size w w'
section
variable {w w' w2 : World} {ok : Nat → Prop} {vl : Value} {gm g8 g13 : Nat} {L Lm : List Pr} {A : List Bool} {M : List (List Int)} {u0 u1 b0 b1 : Value}
theorem MemX.below (h : MemX w w' ok vl gm g8 g13 L Lm A M u0 u1 b0 b1) (hb : Below w'.heap.size w' w2) : MemX w w2 ok vl gm g8 g13 L Lm A M u0 u1 b0 b1 :=
  ⟨Kd.R_below h.list hb, h.map.below hb, Kd.R_below h.acc hb, Kd.S_below h.rows hb, blk_below h.box hb, blk_below h.res hb, below_then h.bel h.bel.size hb⟩
theorem MemX.tight (h : MemX w w' ok vl gm g8 g13 L Lm A M u0 u1 b0 b1) : MemX w w' (fun b => b < w'.heap.size) vl gm g8 g13 L Lm A M u0 u1 b0 b1 :=
  ⟨h.list, h.map, h.acc, Kd.S_mono (Kd.S_bound h.rows) (fun b hb => hb.2.2.1), h.box, h.res, h.bel⟩
theorem own_at {W : World} {v v1 : Value} {N : Nat} (hat : v1.ownBlock = v.ownBlock ∨ ∃ b, v1.ownBlock = some b ∧ W.heap.size ≤ b) (ho : ∀ k, v.ownBlock = some k → N ≤ k) (hs : N ≤ W.heap.size) : ∀ k, v1.ownBlock = some k → N ≤ k := fun k hk => by
  rcases hat with h | ⟨b, hb, hle⟩
  · exact ho k (h ▸ hk)
  · rw [hb] at hk
    injection hk with hk
    omega
theorem MemX.mapped {Ln : List Pr} (h : MemX w w' ok vl gm g8 g13 L Lm A M u0 u1 b0 b1) (hg : w'.grownBy w2 (some gm)) (hgm : w.heap.size ≤ gm) (hm : IsMP w2 gm (idx Ln) Ln.length) : MemX w w2 ok vl gm g8 g13 L Ln A M u0 u1 b0 b1 :=
  ⟨R_over_map h.list h.map hg, hm, R_over_map h.acc h.map hg, S_over_map h.rows h.map hg, blk_grown h.box hg (map_ne h.map h.box), blk_grown h.res hg (map_ne h.map h.res), below_map h.bel hg hgm⟩
theorem MemX.listed {vn : Value} {Ln : List Pr} (h : MemX w w' ok vl gm g8 g13 L Lm A M u0 u1 b0 b1) (hg : w'.grownBy w2 vl.ownBlock) (ho : Kd.R kdP 72 w2 w.heap.size (fun _ => True) vn Ln) (hb : Below w.heap.size w w2) : MemX w w2 ok vn gm g8 g13 Ln Lm A M u0 u1 b0 b1 :=
  ⟨ho, h.map.kept hg (h.map.not_row (Kd.R_typed h.list)), Kd.R_over' h.acc (Kd.R_typed h.list) (by decide) hg, Kd.S_over' h.rows (Kd.R_typed h.list) (by decide) hg, blk_grown h.box hg (Kd.R_ne h.list h.box (by decide)), blk_grown h.res hg (Kd.R_ne h.list h.res (by decide)), hb⟩
theorem MemX.rowed {v : Value} {xs : List Int} {base : Nat} {okr : Nat → Prop} (h : MemX w w' ok vl gm g8 g13 L Lm A M u0 u1 b0 b1) (hr : Kd.R (Kd.int .i64) 3 w' base okr v xs) (hg : w'.grownBy w2 v.ownBlock) (hok : ∀ k, ok k → some k ≠ v.ownBlock) (hb : Below w.heap.size w w2) : MemX w w2 ok vl gm g8 g13 L Lm A M u0 u1 b0 b1 :=
  ⟨Kd.R_over' h.list (Kd.R_typed hr) (by decide) hg, h.map.kept hg (h.map.not_row (Kd.R_typed hr)), Kd.R_over' h.acc (Kd.R_typed hr) (by decide) hg, Kd.S_grown h.rows hg hok, blk_grown h.box hg (Kd.R_ne hr h.box (by decide)), blk_grown h.res hg (Kd.R_ne hr h.res (by decide)), hb⟩
theorem MemX.accd {vn : Value} {An : List Bool} (h : MemX w w' ok vl gm g8 g13 L Lm A M u0 u1 b0 b1) (hg : w'.grownBy w2 u0.ownBlock) (ho : Kd.R Kd.bool 4 w2 w.heap.size (fun _ => True) vn An) (hb : Below w.heap.size w w2) : MemX w w2 ok vl gm g8 g13 L Lm An M vn u1 b0 b1 :=
  ⟨Kd.R_over' h.list (Kd.R_typed h.acc) (by decide) hg, h.map.kept hg (h.map.not_row (Kd.R_typed h.acc)), ho, Kd.S_over' h.rows (Kd.R_typed h.acc) (by decide) hg, blk_grown h.box hg (Kd.R_ne h.acc h.box (by decide)), blk_grown h.res hg (Kd.R_ne h.acc h.res (by decide)), hb⟩
theorem MemX.rowsd {vn : Value} {Mn : List (List Int)} {okn : Nat → Prop} (h : MemX w w' ok vl gm g8 g13 L Lm A M u0 u1 b0 b1) (hg : w'.grownBy w2 u1.ownBlock) (ho : Kd.S (Kd.slice 3 (Kd.int .i64)) 67 w2 w.heap.size okn vn Mn) (hb : Below w.heap.size w w2) : MemX w w2 okn vl gm g8 g13 L Lm A Mn u0 vn b0 b1 :=
  ⟨Kd.R_over' h.list (Kd.S_typed h.rows) (by decide) hg, h.map.kept hg (h.map.not_row (Kd.S_typed h.rows)), Kd.R_over' h.acc (Kd.S_typed h.rows) (by decide) hg, ho, blk_grown h.box hg (Kd.S_ne h.rows h.box (by decide)), blk_grown h.res hg (Kd.S_ne h.rows h.res (by decide)), hb⟩
theorem MemX.put {v : Value} (h : MemX w w' ok vl gm g8 g13 L Lm A M u0 u1 b0 b1) (hn : g8 ≠ g13) (hl : w.heap.size ≤ g13) (j : Nat) {c0 c1 : Value} (hc : (#[b0, b1] : Array Value).set! j v = #[c0, c1]) (hbx : (w'.setCell ⟨g13, j, none⟩ v).heap[g13]? = some (.cells #[c0, c1] 27 (0, 0))) : MemX w (w'.setCell ⟨g13, j, none⟩ v) ok vl gm g8 g13 L Lm A M u0 u1 c0 c1 :=
  ⟨Kd.R_set h.list h.box (by decide) j v, h.map.kept (gb_set (gb_refl _ _) j v) (fun e => map_ne h.map h.box e.symm), Kd.R_set h.acc h.box (by decide) j v, Kd.S_set h.rows h.box (by decide) j v, hbx, blk_grown h.res (gb_set (gb_refl _ _) j v) (fun e => hn (Option.some.inj e)), below_set h.bel hl⟩
end
set_option maxHeartbeats 8000000 in
set_option maxRecDepth 100000 in
theorem explored_pair {dom : Pr → Prop} (most : Nat) (hm1 : 1 ≤ most) (hm : most ≤ 1000000) (acc : Pr → Bool) (nx : Pr → Nat → Pr) (x0 : Pr) (g1 g2 : Nat) (lb1 lb2 : Array Value)
    (eg1 : ∀ args w, (callFunc g1 args).run Try.prog w = .ok (.enter g1 args) w) (eg2 : ∀ args w, (callFunc g2 args).run Try.prog w = .ok (.enter g2 args) w) (w : World)
    (hd0 : dom x0) (hdn : ∀ x j, dom x → j < 3 → dom (nx x j)) (hwf : ∀ x, dom x → wfP x)
    (h1 : ∀ x, dom x → ∀ W, Below w.heap.size w W → Calls Try.prog g1 (#[.agg #[.int .i64 (x).1, .int .i64 (x).2]] ++ lb1) W fun e W' => e = .returned (.bool (acc x)) ∧ Below W.heap.size W W')
    (h2 : ∀ (x : Pr) (j : Nat), dom x → j < 3 → ∀ W, Below w.heap.size w W → Calls Try.prog g2 (#[.agg #[.int .i64 (x).1, .int .i64 (x).2], .int .i64 j] ++ lb2) W fun e W' => e = .returned (.agg #[.int .i64 (nx x j).1, .int .i64 (nx x j).2]) ∧ Below W.heap.size W W') :
    Calls Try.prog 65 #[.agg #[.int .i64 (x0).1, .int .i64 (x0).2], .int .i64 most, .func (.func g1) #[] lb1, .func (.func g2) #[] lb2] w fun e w' => ∃ v0 v1 vl : Value, e = .returned (.tuple #[.agg #[v0, v1], vl, .bool (expl acc nx most (most + 2) ([x0], [], []) 0).isSome]) ∧ Kd.R Kd.bool 4 w' w.heap.size (fun _ => True) v0 ((expl acc nx most (most + 2) ([x0], [], []) 0).getD ([], [], [])).2.1 ∧ Kd.S (Kd.slice 3 (Kd.int .i64)) 67 w' w.heap.size (fun _ => True) v1 ((expl acc nx most (most + 2) ([x0], [], []) 0).getD ([], [], [])).2.2 ∧ Below w.heap.size w w' := by
  generalize hR : expl acc nx most (most + 2) ([x0], [], []) 0 = r
  have HR := Aside0.mk hR
  have H1 := Aside0.mk h1
  have H2 := Aside0.mk h2
  have HD0 := Aside0.mk hd0
  have HD := Aside0.mk hdn
  have HW := Aside0.mk hwf
  have HX := Aside0.mk (hwf x0 hd0)
  have hu_ := Aside0.mk hm
  have HM1 := Aside0.mk hm1
  clear h1 h2 hdn hwf hd0 hm hm1 hR
  have hu27 := Try.underlying27
  obtain ⟨OX, hOX⟩ : ∃ o : Obj, o = Obj.cells #[Value.int IntKind.i64 x0.1, Value.int IntKind.i64 x0.2] 72 := ⟨_, rfl⟩
  obtain ⟨OD, hOD⟩ : ∃ o : Obj, o = Obj.cells #[Value.slice none 0 0, Value.slice none 0 0] 27 := ⟨_, rfl⟩
  have HC0 : Aside0 (World.cell? (((w.alloc OX).alloc OD).alloc OX) ⟨w.heap.size, 0, none⟩ = some (.int .i64 x0.1)) := ⟨by rw [hOX]; exact pw_cell_below (below_alloc (below_alloc (Below.refl _ _) _) _) (by simp)⟩
  have HC1 : Aside0 (World.cell? (((w.alloc OX).alloc OD).alloc OX) ⟨w.heap.size, 1, none⟩ = some (.int .i64 x0.2)) := ⟨by rw [hOX]; exact pw_cell_below (below_alloc (below_alloc (Below.refl _ _) _) _) (by simp)⟩
  have HLW : Aside0 (Kd.R kdP 72 (((w.alloc OX).alloc OD).alloc OX) w.heap.size (fun _ => True) (.slice (some ⟨w.heap.size + 1 + 1, 0, none⟩) 1 1) [x0]) := ⟨by
    have := R_here (okp := fun _ => True) (inner := [.int .i64 x0.1, .int .i64 x0.2]) kdP ((w.alloc OX).alloc OD) w.heap.size 72 (xs := [x0]) (Reps.snoc (Reps.none _ _) (show Kd.M kdP _ _ _ x0 [.int .i64 x0.1, .int .i64 x0.2] from ⟨[.int .i64 x0.1], [.int .i64 x0.2], rfl, rfl, rfl⟩) rfl) (by simp; omega) (by simp)
    rw [hOX]
    rw [hOX] at this
    simpa using this⟩
  have HR8 : Aside0 ((((w.alloc OX).alloc OD).alloc OX).heap[w.heap.size + 1]? = some (.cells #[.slice none 0 0, .slice none 0 0] 27 (0, 0))) := ⟨by
    have h0 := blk_new (w.alloc OX) OD
    have h1 := blk_alloc h0 OX
    rw [hOD] at h1 ⊢
    simpa using h1⟩
  have HBW : Aside0 (Below w.heap.size w (((w.alloc OX).alloc OD).alloc OX)) := ⟨below_alloc (below_alloc (below_alloc (Below.refl w.heap.size w) _) _) _⟩
  have HSZ : Aside0 ((((w.alloc OX).alloc OD).alloc OX).heap.size = w.heap.size + 1 + 1 + 1) := ⟨by simp⟩
  subst hOX
  subst hOD
  go_enter Try.func65, Try.ntmps65
  go_wp2_with (first
    | ((with_reducible refine gate_dst (N := 22) rfl ?_); refine wp_make (t := 121) (k := 72) (e := 3) (q := .i64) (enc := encP) (ok := wfP) rfl rfl ?_; intro w3 hm hb; have hm : IsMP w3 (w.heap.size + 1 + 1 + 1) (fun _ => none) 0 := HSZ.out ▸ hm; have hc0 := pw_cell_below hb HC0.out; have hc1 := pw_cell_below hb HC1.out; have HL := Aside0.mk (Kd.R_below HLW.out hb); have HR9 := Aside0.mk (blk_below HR8.out hb); have HM := Aside0.mk hm; have HB3 := Aside0.mk (below_then HBW.out HBW.out.size hb); clear hm hb)
    | (refine wp_insert mapP rfl _ _ _ rfl _ _ _ HM.out (by unfold maxLen; omega) rfl x0 rfl HX.out 0 rfl (by decide) ?_; intro w4 hm hgr; have HM2 := Aside0.mk hm; have HG4 := Aside0.mk hgr; clear hm hgr))
  have hb4 := below_alloc (Below.refl w4.heap.size w4) (Obj.cells #[Value.slice none 0 0, Value.slice none 0 0] 27)
  have hm4 : IsMP w4 (w.heap.size + 1 + 1 + 1) (idx [x0]) 1 := by have := HM2.out; rw [idx_one] at this; exact this
  have hM0 : MemX w (w4.alloc (Obj.cells #[Value.slice none 0 0, Value.slice none 0 0] 27)) (fun _ => True) (.slice (some ⟨w.heap.size + 1 + 1, 0, none⟩) 1 1) (w.heap.size + 1 + 1 + 1) (w.heap.size + 1) w4.heap.size [x0] [x0] [] [] (.slice none 0 0) (.slice none 0 0) (.slice none 0 0) (.slice none 0 0) :=
    ⟨Kd.R_below (R_over_map HL.out HM.out HG4.out) hb4, hm4.below hb4, Kd.R_nil _ _ _ _ _, Kd.S_nil _ _ _ _ _, blk_new w4 _, blk_below (blk_grown HR9.out HG4.out (map_ne HM.out HR9.out)) hb4, below_alloc (below_map HB3.out HG4.out (by omega)) _⟩
  have HMEM := Aside0.mk hM0
  have HGM : Aside0 (w.heap.size ≤ w.heap.size + 1 + 1 + 1) := ⟨by omega⟩
  have HG8 : Aside0 (w.heap.size ≤ w.heap.size + 1) := ⟨by omega⟩
  have HG13 : Aside0 (w.heap.size ≤ w4.heap.size) := ⟨(below_map HB3.out HG4.out (by omega)).size⟩
  have H813 : Aside0 (w.heap.size + 1 ≠ w4.heap.size) := ⟨fun h_ => by have h1_ := blk_lt (blk_grown HR9.out HG4.out (map_ne HM.out HR9.out)); omega⟩
  have HDL : Aside0 (∀ y ∈ [x0], dom y) := ⟨fun y hy => by rw [List.mem_singleton] at hy; subst hy; exact HD0.out⟩
  clear HL HR9 HM HM2 HB3 HG4 hM0 HC0 HC1 HLW HR8 HBW HSZ hc0 hc1 hb4 hm4
  generalize w4.alloc (Obj.cells #[Value.slice none 0 0, Value.slice none 0 0] 27) = ws at HMEM ⊢
  generalize w4.heap.size = g13 at HMEM HG13 H813 ⊢
  generalize w.heap.size + 1 + 1 + 1 = gm at HMEM HGM ⊢
  generalize w.heap.size + 1 = g8 at HMEM HG8 H813 ⊢
  go_loopg [11, 14] (most + 2) (fun gg v11 v14 wr => ∃ (p : Ex Pr) (i : Nat) (u0 u1 : Value), v14 = .int .i64 (i : Int) ∧ Aside0 (i ≤ p.1.length) ∧ Aside0 (most + 2 ≤ gg + i) ∧ Aside0 (p.1.length ≤ most) ∧ Aside0 (p.2.1.length = i ∧ p.2.2.length = i) ∧ Aside0 (expl acc nx most gg p i = r) ∧ Aside0 (∀ x ∈ p.1, dom x) ∧ Aside0 (MemX w wr (fun _ => True) v11 gm g8 g13 p.1 p.1 p.2.1 p.2.2 u0 u1 u0 u1))
  case atStart => exact ⟨([x0], [], []), 0, _, _, rfl, ⟨Nat.zero_le _⟩, ⟨by omega⟩, ⟨HM1.out⟩, ⟨⟨rfl, rfl⟩⟩, HR, HDL, HMEM⟩
  case round =>
    clear HMEM HR HDL
    obtain ⟨p, i, u0, u1, rfl, HI, HG, HLE, HLN, HR, HDL, HMEM⟩ := hrel
    cases gk with
    | zero => exact absurd HI.out (by have := HG.out; have := HLE.out; omega)
    | succ g =>
      obtain ⟨A11, c11, e11⟩ := Kd.R_slice HMEM.out.list
      subst e11
      obtain ⟨Aa, ca, ea⟩ := Kd.R_slice HMEM.out.acc
      subst ea
      obtain ⟨Ay, cy, ey⟩ := Kd.S_slice HMEM.out.rows
      subst ey
      have hr := HR.out
      rw [expl] at hr
      by_cases hi : i < p.1.length
      ·
        rw [dif_pos hi] at hr
        have hP1 : p.1[i]? = some p.1[i] := List.getElem?_eq_getElem hi
        have hdx := HDL.out _ (List.getElem_mem hi)
        generalize p.1[i] = x at hr hP1 hdx
        generalize hrr : exRow nx most x 3 0 p.1 [] = rr at hr
        have HRR := Aside0.mk hr
        have HER := Aside0.mk hrr
        have HP1 := Aside0.mk hP1
        have HDX := Aside0.mk hdx
        have HI2 := Aside0.mk hi
        have q1 : ((i : Int) < (p.1.length : Int)) = True := eq_true (by omega)
        clear hr hrr hP1 hdx hi HR HI
        go_wp2_with ((with_reducible refine gate_dst (N := 32) rfl ?_); refine Kd.R_lit (Kd.int .i64) _ 3 ?hg (N := 32) ?hd (xs := ([] : List Int)) (inner := []) (ok := fun _ => True) (okp := fun _ => True) ?hr ?hp (fun _ hk => hk) trivial (Below.refl _ _) (Nat.le_refl _) (by simp) ?_; (case hd => rfl); (case hg => rfl); (case hr => first | (go_simp; done) | (go_simp; rfl)); (case hp => exact (Reps.none _ _)); intro v15 w6 ho hb hg_ hnew_; clear hg_ hnew_; have HROW := Aside0.mk (Kd.R_lower ho HMEM.out.bel.size); have HOB := Aside0.mk (fun k => Kd.R_base ho k); have HB6 := Aside0.mk hb; clear ho hb)
        obtain ⟨W1, rfl⟩ : ∃ wo : World, wo = wr := ⟨_, rfl⟩
        have HMI := Aside0.mk ((HMEM.out.tight).below HB6.out)
        have HSW := Aside0.mk HB6.out.size
        have HLEP := HLE
        have HDLP := HDL
        have HPRE : Aside0 (p.1.length ≤ p.1.length) := ⟨Nat.le_refl _⟩
        clear HMEM HB6 q1
        go_loopg [11, 15, 33] 3 (fun gg v11 v15 v33 wr => ∃ (L : List Pr) (row : List Int) (j : Nat), v33 = .int .i64 (j : Int) ∧ Aside0 (j ≤ 3) ∧ Aside0 (3 ≤ gg + j) ∧ Aside0 (exRow nx most x (3 - j) j L row = rr) ∧ Aside0 (L.length ≤ most) ∧ Aside0 (p.1.length ≤ L.length) ∧ Aside0 (∀ y ∈ L, dom y) ∧ Aside0 (L[i]? = some x) ∧ Aside0 (row.length = j) ∧ Aside0 (MemX w wr (fun b => b < W1.heap.size) v11 gm g8 g13 L L p.2.1 p.2.2 (.slice Aa p.2.1.length ca) (.slice Ay p.2.2.length cy) (.slice Aa p.2.1.length ca) (.slice Ay p.2.2.length cy)) ∧ Aside0 (Kd.R (Kd.int .i64) 3 wr w.heap.size (fun _ => True) v15 row) ∧ Aside0 (∀ k, v15.ownBlock = some k → W1.heap.size ≤ k) ∧ Aside0 (W1.heap.size ≤ wr.heap.size))
        case atStart => exact ⟨p.1, [], 0, rfl, ⟨by omega⟩, ⟨by omega⟩, HER, HLE, HPRE, HDL, HP1, ⟨rfl⟩, HMI, HROW, HOB, HSW⟩
        case round =>
          clear HMI HROW HOB HSW HP1 HDL HLE HER HPRE
          obtain ⟨L, row, j, rfl, HJ, HGJ, HER, HLE, HPRE, HDL, HP1, HRL, HMEM, HROW, HOB, HSW⟩ := hrel
          obtain ⟨A11, c11, e11⟩ := Kd.R_slice HMEM.out.list
          subst e11
          obtain ⟨A15, c15, e15⟩ := Kd.R_slice HROW.out
          subst e15
          by_cases hj : j < 3
          ·
            cases gk with
            | zero => exact absurd HGJ.out (by omega)
            | succ g3 =>
            have hi2 : i < L.length := (List.getElem?_eq_some_iff.mp HP1.out).1
            have hx1 : L[i] = x := (List.getElem?_eq_some_iff.mp HP1.out).2
            obtain ⟨ad8, ea8, hx8, hx8b⟩ := at_pair (Kd.R_reads' HMEM.out.list).2.2 i (by omega) rfl
            subst ea8
            rw [hx1] at hx8 hx8b
            have HC := Aside0.mk (H2.out x j HDX.out hj)
            have hdy := HD.out x j HDX.out hj
            have HWY := Aside0.mk (HW.out _ hdy)
            have her := HER.out
            rw [show 3 - j = (3 - (j + 1)) + 1 by omega, exRow] at her
            have hsome := idx_some (s := L) (y := nx x j)
            generalize hy : nx x j = y at HC hdy HWY her hsome
            have p1 : ((0 : Int) ≤ (i : Int)) = True := eq_true (by omega)
            have q1 : ((i : Int) < (L.length : Int)) = True := eq_true (by omega)
            have q3 : ((j : Int) < (3 : Int)) = True := eq_true (by omega)
            have HJ3 := Aside0.mk hj
            have HI3 := Aside0.mk hi2
            have HDY := Aside0.mk hdy
            have HROL : Aside0 (row.length ≤ 3) := ⟨by have := HRL.out; omega⟩
            have HLEN : Aside0 ((L.length : Int) ≤ 1000000) := ⟨by have := HLE.out; have := hu_.out; omega⟩
            clear hi2 hx1 hdy hy hj HER
            by_cases hmem : y ∈ L
            ·
              rw [if_pos hmem] at her
              have hsome := idx_in hmem
              have HER := Aside0.mk her
              have HIX := Aside0.mk (idx_val hmem)
              clear her hmem
              go_wp2_with (first
                | (go_at_fn g2; refine (HC.out _ (by exact HMEM.out.bel)).mono ?_; rintro e W2 ⟨rfl, hb⟩; have HM1 := Aside0.mk (HMEM.out.below hb); have HROW1 := Aside0.mk (Kd.R_below HROW.out hb); have HSW1 := Aside0.mk (Nat.le_trans HSW.out hb.size); clear hb)
                | ((with_reducible refine gate_dst (N := 46) rfl ?_); have HM2 := Aside0.mk (HM1.out.below (below_alloc (Below.refl _ _) (Obj.cells #[Value.int IntKind.i64 y.1, Value.int IntKind.i64 y.2] 72))); have HROW2 := Aside0.mk (Kd.R_below HROW1.out (below_alloc (Below.refl _ _) (Obj.cells #[Value.int IntKind.i64 y.1, Value.int IntKind.i64 y.2] 72))); have HSW2 := Aside0.mk (Nat.le_trans HSW1.out (below_alloc (Below.refl W2.heap.size W2) (Obj.cells #[Value.int IntKind.i64 y.1, Value.int IntKind.i64 y.2] 72)).size); refine wp_look_ok mapP rfl _ _ rfl _ _ _ HM2.out.map rfl y rfl HWY.out ?_; rw [hsome]; generalize W2.alloc (Obj.cells #[Value.int IntKind.i64 y.1, Value.int IntKind.i64 y.2] 72) = W3 at HM2 HROW2 HSW2 ⊢)
                | (at_builtin; refine Kd.R_append (Kd.int .i64) (w0 := w) w.heap.size rfl (.tmp 65) (.tmp 67) 67 3 (.int .i64 0) 8 rfl Try.underlying67 info3 rfl (by decide) (by omega) (.slice A15 row.length c15) row ((idx L y).getD 0) [.int .i64 ((idx L y).getD 0)] (fun _ => True) (fun _ => False) rfl rfl ?aP (fun _ hk => hk.elim) ?aF ?aO ?aB ?aS ?aL ?_; (case aP => exact rfl); (case aF => exact (fun _ _ => trivial)); (case aO => exact HROW2.out); (case aB => exact HM2.out.bel); (case aS => exact HM2.out.bel.size); (case aL => have := HROL.out; omega); intro v5n w4 ho hb hg hat; have HROWN := Aside0.mk ho; have HMN := Aside0.mk (HM2.out.rowed HROW2.out hg (fun k hk he => by have := HOB.out k he.symm; omega) hb); have HOBN := Aside0.mk (own_at hat HOB.out HSW2.out); have HSWN := Aside0.mk (Nat.le_trans HSW2.out hg.size); clear ho hb hg hat))
              go_roundg g3
              case measure => omega
              case rel => exact ⟨L, row ++ [((idx L y).getD 0)], j + 1, by rw [up1 (by have := HJ3.out; omega)], ⟨HJ3.out⟩, ⟨by have := HGJ.out; omega⟩, HER, HLE, HPRE, HDL, HP1, ⟨by rw [List.length_append, HRL.out]; rfl⟩, HMN, HROWN, HOBN, HSWN⟩
            ·
              rw [if_neg hmem] at her
              have hsome := idx_out hmem
              have HU := Aside0.mk (idx_upd hmem)
              by_cases hmost : most < L.length + 1
              ·
                rw [if_pos hmost] at her
                have her2 := HRR.out
                rw [← her] at her2
                have e1 : r = none := her2.symm
                subst e1
                have kq : ((most : Int) < ((L.length + 1 : Nat) : Int)) = True := eq_true (by omega)
                have kq2 : ((most : Int) < (L.length : Int) + 1) = True := eq_true (by omega)
                have kq3 : decide ((most : Int) < (L.length : Int) + 1) = true := decide_eq_true (by omega)
                clear her her2 hmem hmost
                go_wp2_with (first
                  | (go_at_fn g2; refine (HC.out _ (by exact HMEM.out.bel)).mono ?_; rintro e W2 ⟨rfl, hb⟩; have HM1 := Aside0.mk (HMEM.out.below hb); clear hb)
                  | ((with_reducible refine gate_dst (N := 46) rfl ?_); have HGN : Aside0 (gm ≠ W2.heap.size) := ⟨by have := HM1.out.map.lt; omega⟩; have HM2 := Aside0.mk (HM1.out.below (below_alloc (Below.refl _ _) (Obj.cells #[Value.int IntKind.i64 y.1, Value.int IntKind.i64 y.2] 72))); refine wp_look_ok mapP rfl _ _ rfl _ _ _ HM2.out.map rfl y rfl HWY.out ?_; rw [hsome])
                  | (at_builtin; refine Kd.R_append kdP (w0 := w) w.heap.size rfl (.tmp 56) (.tmp 58) 69 72 (.agg #[.int .i64 0, .int .i64 0]) 16 rfl Try.underlying69 infoP rfl (by decide) (by omega) (.slice (some ad8) L.length c11) L y [.int .i64 y.1, .int .i64 y.2] (fun _ => True) (fun _ => False) rfl rfl ?aP (fun _ hk => hk.elim) ?aF ?aO ?aB ?aS ?aL ?_; (case aP => exact ⟨[.int .i64 y.1], [.int .i64 y.2], rfl, rfl, rfl⟩); (case aF => exact (fun _ _ => trivial)); (case aO => exact HM3.out.list); (case aB => exact HM3.out.bel); (case aS => exact HM3.out.bel.size); (case aL => have := HLEN.out; omega); intro v8n w3 ho hb hg hat; have HM4 := Aside0.mk (HM3.out.listed hg ho hb); obtain ⟨A8n, c8n, e8n⟩ := Kd.R_slice ho; rw [show (L ++ [y]).length = L.length + 1 by simp] at e8n; subst e8n; have hcz0 : w3.cell? ⟨g8, 0, none⟩ = some (.slice none 0 0) := (blk_cell HM4.out.res 0).trans rfl; have hcz1 : w3.cell? ⟨g8, 1, none⟩ = some (.slice none 0 0) := (blk_cell HM4.out.res 1).trans rfl; have hfz0 := blk_frozen HM4.out.res 0; have hfz1 := blk_frozen HM4.out.res 1; clear ho hb hg hat)
                  | (refine wp_update mapP rfl _ _ _ rfl _ _ _ HM2.out.map (by have := HLEN.out; unfold maxLen; omega) rfl y rfl HWY.out (L.length : Int) rfl (by have := HLEN.out; simp [Lit.wf, IntKind.min, IntKind.max, IntKind.signed, IntKind.bits]; omega) ?_; intro w2 hm hgr; rw [HU.out, if_neg (by rw [hsome]; decide)] at hm; have hcy0 := cell_grown hgr (a := ⟨W2.heap.size, 0, none⟩) (by simp) (fun h_ => HGN.out (Option.some.inj h_).symm) (v := .int .i64 y.1) (by simp); have hcy1 := cell_grown hgr (a := ⟨W2.heap.size, 1, none⟩) (by simp) (fun h_ => HGN.out (Option.some.inj h_).symm) (v := .int .i64 y.2) (by simp); have HM3 := Aside0.mk (HM2.out.mapped (Ln := L ++ [y]) hgr HGM.out (by rw [List.length_append]; exact hm)); clear hm hgr))
                have HT4 : Aside0 (((w3.setCell ⟨g8, 0, none⟩ (.slice none 0 0)).setCell ⟨g8, 1, none⟩ (.slice none 0 0)).heap[g8]? = some (.cells #[.slice none 0 0, .slice none 0 0] 27 (0, 0))) := ⟨blk_put (blk_put (cs' := #[.slice none 0 0, .slice none 0 0]) HM4.out.res 0 _ rfl) 1 _ rfl⟩
                refine bodyPost_ret (results_ctt rfl _ _ g8 27 #[.slice none 0 0, .slice none 0 0] (0, 0) _ rfl HT4.out Try.underlying27 rfl (by kernel_rfl)) rfl ?_
                exact ⟨_, _, _, rfl, Kd.R_nil _ _ _ _ _, Kd.S_nil _ _ _ _ _, below_set (below_set HM4.out.bel HG8.out) HG8.out⟩
              ·
                rw [if_neg hmost] at her
                have HER := Aside0.mk her
                have kq : ((most : Int) < ((L.length + 1 : Nat) : Int)) = False := eq_false (by omega)
                have kq2 : ((most : Int) < (L.length : Int) + 1) = False := eq_false (by omega)
                have kq3 : decide ((most : Int) < (L.length : Int) + 1) = false := decide_eq_false (by omega)
                have HMO := Aside0.mk (show L.length + 1 ≤ most by omega)
                clear her hmem hmost
                go_wp2_with (first
                  | (go_at_fn g2; refine (HC.out _ (by exact HMEM.out.bel)).mono ?_; rintro e W2 ⟨rfl, hb⟩; have HM1 := Aside0.mk (HMEM.out.below hb); have HROW1 := Aside0.mk (Kd.R_below HROW.out hb); have HSW1 := Aside0.mk (Nat.le_trans HSW.out hb.size); clear hb)
                  | ((with_reducible refine gate_dst (N := 46) rfl ?_); have HGN : Aside0 (gm ≠ W2.heap.size) := ⟨by have := HM1.out.map.lt; omega⟩; have HM2 := Aside0.mk (HM1.out.below (below_alloc (Below.refl _ _) (Obj.cells #[Value.int IntKind.i64 y.1, Value.int IntKind.i64 y.2] 72))); have HROW2 := Aside0.mk (Kd.R_below HROW1.out (below_alloc (Below.refl _ _) (Obj.cells #[Value.int IntKind.i64 y.1, Value.int IntKind.i64 y.2] 72))); have HSW2 := Aside0.mk (Nat.le_trans HSW1.out (below_alloc (Below.refl W2.heap.size W2) (Obj.cells #[Value.int IntKind.i64 y.1, Value.int IntKind.i64 y.2] 72)).size); refine wp_look_ok mapP rfl _ _ rfl _ _ _ HM2.out.map rfl y rfl HWY.out ?_; rw [hsome])
                  | (at_builtin; refine Kd.R_append kdP (w0 := w) w.heap.size rfl (.tmp 56) (.tmp 58) 69 72 (.agg #[.int .i64 0, .int .i64 0]) 16 rfl Try.underlying69 infoP rfl (by decide) (by omega) (.slice (some ad8) L.length c11) L y [.int .i64 y.1, .int .i64 y.2] (fun _ => True) (fun _ => False) rfl rfl ?aP (fun _ hk => hk.elim) ?aF ?aO ?aB ?aS ?aL ?_; (case aP => exact ⟨[.int .i64 y.1], [.int .i64 y.2], rfl, rfl, rfl⟩); (case aF => exact (fun _ _ => trivial)); (case aO => exact HM3.out.list); (case aB => exact HM3.out.bel); (case aS => exact HM3.out.bel.size); (case aL => have := HLEN.out; omega); intro v8n w3 ho hb hg hat; have HM4 := Aside0.mk (HM3.out.listed hg ho hb); have HROW4 := Aside0.mk (Kd.R_over' HROW3.out (Kd.R_typed HM3.out.list) (by decide) hg); have HSW4 := Aside0.mk (Nat.le_trans HSW3.out hg.size); obtain ⟨A8n, c8n, e8n⟩ := Kd.R_slice ho; rw [show (L ++ [y]).length = L.length + 1 by simp] at e8n; subst e8n; clear ho hb hg hat)
                  | (at_builtin; refine Kd.R_append (Kd.int .i64) (w0 := w) w.heap.size rfl (.tmp 65) (.tmp 67) 67 3 (.int .i64 0) 8 rfl Try.underlying67 info3 rfl (by decide) (by omega) (.slice A15 row.length c15) row ((L.length : Nat) : Int) [.int .i64 ((L.length : Nat) : Int)] (fun _ => True) (fun _ => False) rfl rfl ?bP (fun _ hk => hk.elim) ?bF ?bO ?bB ?bS ?bL ?_; (case bP => exact rfl); (case bF => exact (fun _ _ => trivial)); (case bO => exact HROW4.out); (case bB => exact HM4.out.bel); (case bS => exact HM4.out.bel.size); (case bL => have := HROL.out; omega); intro v5n w5 ho hb hg hat; have HROWN := Aside0.mk ho; have HMN := Aside0.mk (HM4.out.rowed HROW4.out hg (fun k hk he => by have := HOB.out k he.symm; omega) hb); have HOBN := Aside0.mk (own_at hat HOB.out HSW4.out); have HSWN := Aside0.mk (Nat.le_trans HSW4.out hg.size); clear ho hb hg hat)
                  | (refine wp_update mapP rfl _ _ _ rfl _ _ _ HM2.out.map (by have := HLEN.out; unfold maxLen; omega) rfl y rfl HWY.out (L.length : Int) rfl (by have := HLEN.out; simp [Lit.wf, IntKind.min, IntKind.max, IntKind.signed, IntKind.bits]; omega) ?_; intro w2 hm hgr; rw [HU.out, if_neg (by rw [hsome]; decide)] at hm; have hcy0 := cell_grown hgr (a := ⟨W2.heap.size, 0, none⟩) (by simp) (fun h_ => HGN.out (Option.some.inj h_).symm) (v := .int .i64 y.1) (by simp); have hcy1 := cell_grown hgr (a := ⟨W2.heap.size, 1, none⟩) (by simp) (fun h_ => HGN.out (Option.some.inj h_).symm) (v := .int .i64 y.2) (by simp); have HM3 := Aside0.mk (HM2.out.mapped (Ln := L ++ [y]) hgr HGM.out (by rw [List.length_append]; exact hm)); have HROW3 := Aside0.mk (R_over_map HROW2.out HM2.out.map hgr); have HSW3 := Aside0.mk (Nat.le_trans HSW2.out hgr.size); clear hm hgr))
                go_roundg g3
                case measure => omega
                case rel => exact ⟨L ++ [y], row ++ [((L.length : Nat) : Int)], j + 1, by rw [up1 (by have := HJ3.out; omega)], ⟨HJ3.out⟩, ⟨by have := HGJ.out; omega⟩, HER, ⟨by rw [List.length_append]; exact HMO.out⟩, ⟨by have := HPRE.out; rw [List.length_append]; omega⟩, ⟨fun z hz => (List.mem_append.mp hz).elim (HDL.out z) (fun q => by rw [List.mem_singleton] at q; subst q; exact HDY.out)⟩, ⟨by rw [List.getElem?_append_left HI3.out]; exact HP1.out⟩, ⟨by rw [List.length_append, HRL.out]; rfl⟩, HMN, HROWN, HOBN, HSWN⟩
          ·
            have ej : j = 3 := by have := HJ.out; omega
            subst ej
            have d3 : decide (((3 : Nat) : Int) < 3) = false := by decide
            have her := HER.out
            rw [show 3 - 3 = 0 from rfl, exRow] at her
            have hr := HRR.out
            rw [← her] at hr
            have HEN : Aside0 (expl acc nx most g (L, p.2.1 ++ [acc x], p.2.2 ++ [row]) (i + 1) = r) := ⟨hr⟩
            have hi2 : i < L.length := (List.getElem?_eq_some_iff.mp HP1.out).1
            have hx1 : L[i] = x := (List.getElem?_eq_some_iff.mp HP1.out).2
            obtain ⟨ad8, ea8, hx8, hx8b⟩ := at_pair (Kd.R_reads' HMEM.out.list).2.2 i (by omega) rfl
            subst ea8
            rw [hx1] at hx8 hx8b
            have hx0 : wr.cell? ⟨g13, 0, none⟩ = some (.slice Aa p.2.1.length ca) := (blk_cell HMEM.out.box 0).trans rfl
            have HI3 := Aside0.mk hi2
            have p1 : ((0 : Int) ≤ (i : Int)) = True := eq_true (by omega)
            have q1 : ((i : Int) < (L.length : Int)) = True := eq_true (by omega)
            have HLENS : Aside0 (p.2.1.length ≤ 1000000 ∧ p.2.2.length ≤ 1000000) := ⟨by have := HLN.out; have := HLE.out; have := hu_.out; omega⟩
            have HM5 := Aside0.mk (HMEM.out.below (below_drew1 (Below.refl _ _)))
            have HROW5 := Aside0.mk (Kd.R_drew HROW.out)
            clear her hr hi2 hx1 hj HMEM HROW HER
            go_wp2
            refine start_ (n := 12) (S := (fun w' => w'.cell? ⟨g13, 0, none⟩ = some (.slice Aa p.2.1.length ca) ∧ w'.cell? (ad8.add (i * 2)) = some (.int .i64 x.1) ∧ w'.cell? ⟨(ad8.add (i * 2)).block, (ad8.add (i * 2)).off + 1, none⟩ = some (.int .i64 x.2))) (ds := [9, 11]) #[false, false, false, false, false, false, false, false, false, false, false, false] (by kernel_rfl) rfl rfl (⟨hx0, hx8, hx8b⟩) (fun hHeld => ?_); refine with_tabW tab21x bits21x (fun HT_ HW_ => ?_)
            clear hx0 hx8 hx8b
            generalize wr.drew = w8 at HM5 HROW5 hHeld ⊢
            refine pure_ (i := 0) (N := some 70) (v := ?_) (a' := ?_) #[true, false, false, false, false, false, false, false, false, false, false, false] rfl rfl (any_of HT_.out (by kernel_rfl)) (fun _ _ _ h => h) (Or.inl ⟨by rfl, ?_⟩) ?_ ?_
            rotate_left
            · intro w'
              go_simp
              with_reducible rfl
            rotate_left
            · simp only [Act.put, List.setIfInBounds_toArray, List.set_cons_zero, List.set_cons_succ, i64_w, i32_w]
              rfl
            refine pure_ (i := 2) (N := some 72) (v := ?_) (a' := ?_) #[true, false, true, false, false, false, false, false, false, false, false, false] rfl rfl (any_of HT_.out (by kernel_rfl)) (fun _ _ _ h => h) (Or.inl ⟨by rfl, ?_⟩) ?_ ?_
            rotate_left
            · intro w'
              go_simp
              with_reducible rfl
            rotate_left
            · simp only [Act.put, List.setIfInBounds_toArray, List.set_cons_zero, List.set_cons_succ, i64_w, i32_w]
              rfl
            refine pure_ (i := 3) (N := some 73) (v := ?_) (a' := ?_) #[true, false, true, true, false, false, false, false, false, false, false, false] rfl rfl (any_of HT_.out (by kernel_rfl)) (fun _ _ _ h => h) (Or.inl ⟨by rfl, ?_⟩) ?_ ?_
            rotate_left
            · intro w'
              go_simp
              with_reducible rfl
            rotate_left
            · simp only [Act.put, List.setIfInBounds_toArray, List.set_cons_zero, List.set_cons_succ, i64_w, i32_w]
              rfl
            refine pure_ (i := 4) (N := some 74) (v := ?_) (a' := ?_) #[true, false, true, true, true, false, false, false, false, false, false, false] rfl rfl (any_of HT_.out (by kernel_rfl)) (fun _ _ _ h => h) (Or.inl ⟨by rfl, ?_⟩) ?_ ?_
            rotate_left
            · intro w'
              go_simp
              with_reducible rfl
            rotate_left
            · simp only [Act.put, List.setIfInBounds_toArray, List.set_cons_zero, List.set_cons_succ, i64_w, i32_w]
              rfl
            refine pure_ (i := 5) (N := some 75) (v := ?_) (a' := ?_) #[true, false, true, true, true, true, false, false, false, false, false, false] rfl rfl (any_of HT_.out (by kernel_rfl)) (fun _ _ _ h => h) (Or.inl ⟨by rfl, ?_⟩) ?_ ?_
            rotate_left
            · intro w'
              go_simp
              with_reducible rfl
            rotate_left
            · simp only [Act.put, List.setIfInBounds_toArray, List.set_cons_zero, List.set_cons_succ, i64_w, i32_w]
              rfl
            refine take_ (i := 1) (N := some 71) (v := ?_) (a' := ?_) #[true, true, true, true, true, true, false, false, false, false, false, false] rfl rfl (take_ofW HT_.out HW_.out (by kernel_rfl)) (fun _ _ _ h => h) (Or.inl ⟨by rfl, ?_⟩) hHeld ?_ ?_
            rotate_left
            · rintro w' ⟨t0, t1, t2⟩
              go_simp
              with_reducible rfl
            rotate_left
            · simp only [Act.put, List.setIfInBounds_toArray, List.set_cons_zero, List.set_cons_succ, i64_w, i32_w]
              rfl
            refine take_ (i := 6) (N := some 76) (v := ?_) (a' := ?_) #[true, true, true, true, true, true, true, false, false, false, false, false] rfl rfl (take_ofW HT_.out HW_.out (by kernel_rfl)) (fun _ _ _ h => h) (Or.inl ⟨by rfl, ?_⟩) hHeld ?_ ?_
            rotate_left
            · rintro w' ⟨t0, t1, t2⟩
              go_simp
              with_reducible rfl
            rotate_left
            · simp only [Act.put, List.setIfInBounds_toArray, List.set_cons_zero, List.set_cons_succ, i64_w, i32_w]
              rfl
            refine one_ (i := 7) (N := some 77) #[true, true, true, true, true, true, true, true, false, false, false, false] rfl rfl (one_of HT_.out (by kernel_rfl)) (by decide) (fun K hK => ?_)
            refine goesFn_ g1 lb1 (.tmp 72) #[.agg #[.int .i64 x.1, .int .i64 x.2]] eg1 (by rfl) rfl (by rfl) (by rfl) (by (try simp only [List.map_toArray, List.map_cons, List.map_nil]); first | done | rfl) ?_
            refine (H1.out x HDX.out _ (by exact HM5.out.bel)).mono ?_
            rintro e W2 ⟨rfl, hb⟩
            refine ⟨_, rfl, ?_⟩
            have HM6 := Aside0.mk (HM5.out.below hb)
            have HROW6 := Aside0.mk (Kd.R_below HROW5.out hb)
            clear HM5 HROW5
            refine hK.out _ _ (⟨pw_cell_below hb hHeld.1, pw_cell_below hb hHeld.2.1, pw_cell_below hb hHeld.2.2⟩) (fun hHeld => ?_)
            clear hK K
            refine norm_ (a' := ?_) ?_ ?_
            rotate_left
            · show Act.put _ (some 77) _ = _
              simp only [Act.put, List.setIfInBounds_toArray, List.set_cons_zero, List.set_cons_succ, i64_w, i32_w]
              rfl
            refine one_ (i := 8) (N := some 78) #[true, true, true, true, true, true, true, true, true, false, false, false] rfl rfl (one_of HT_.out (by kernel_rfl)) (by decide) (fun K hK => ?_)
            refine value_ (w1 := ?_) (v := ?_) (by rfl) rfl ?_ ?_
            rotate_left 2
            · go_simp
              constructor
              · rfl
              · rfl
            refine hK.out _ _ (⟨cell_al _ hHeld.1, cell_al _ hHeld.2.1, cell_al _ hHeld.2.2⟩) (fun hHeld => ?_)
            clear hK K
            refine norm_ (a' := ?_) ?_ ?_
            rotate_left
            · show Act.put _ (some 78) _ = _
              simp only [Act.put, List.setIfInBounds_toArray, List.set_cons_zero, List.set_cons_succ, i64_w, i32_w]
              rfl
            refine last_ (i := 9) (N := some 79) #[true, true, true, true, true, true, true, true, true, true, false, false] rfl rfl (one_of HT_.out (by kernel_rfl)) (by decide) (fun K hK => ?_)
            refine Kd.R_append_step Kd.bool (w0 := w) w.heap.size (by rfl) (.tmp 71) (.tmp 78) 22 4 (.bool false) 1 rfl Try.underlying22 info4 rfl (by decide) (by omega) (.slice Aa p.2.1.length ca) p.2.1 (acc x) [.bool (acc x)] (fun _ => True) (fun _ => False) rfl rfl ?aP (fun _ hk => hk.elim) ?aF ?aO ?aB ?aS ?aL ?_
            (case aP => exact rfl)
            (case aF => exact (fun _ _ => trivial))
            (case aO => exact HM6.out.acc)
            (case aB => exact HM6.out.bel)
            (case aS => exact HM6.out.bel.size)
            (case aL => have := HLENS.out; omega)
            intro v22 w9 ho hb2 hg hat
            have HM9 := Aside0.mk (HM6.out.accd hg ho hb2)
            have HROW9 := Aside0.mk (Kd.R_over' HROW6.out (Kd.R_typed HM6.out.acc) (by decide) hg)
            obtain ⟨A22, c22, e22⟩ := Kd.R_slice ho
            rw [show (p.2.1 ++ [acc x]).length = p.2.1.length + 1 by simp] at e22
            subst e22
            clear ho hb hb2 hg hat HM6 HROW6
            refine hK.out _ _ ?_
            clear hK K
            refine norm_ (a' := ?_) ?_ ?_
            rotate_left
            · show Act.put _ (some 79) _ = _
              simp only [Act.put, List.setIfInBounds_toArray, List.set_cons_zero, List.set_cons_succ, i64_w, i32_w]
              rfl
            refine pure_ (i := 10) (N := some 80) (v := ?_) (a' := ?_) #[true, true, true, true, true, true, true, true, true, true, true, false] rfl rfl (any_of HT_.out (by kernel_rfl)) (fun _ _ _ h => h) (Or.inl ⟨by rfl, ?_⟩) ?_ ?_
            rotate_left
            · intro w'
              go_simp
              with_reducible rfl
            rotate_left
            · simp only [Act.put, List.setIfInBounds_toArray, List.set_cons_zero, List.set_cons_succ, i64_w, i32_w]
              rfl
            refine last_ (i := 11) (N := none) #[true, true, true, true, true, true, true, true, true, true, true, true] rfl rfl (one_of HT_.out (by kernel_rfl)) (by decide) (fun K hK => ?_)
            have hs54 : w9.cell? ⟨g13, 0, none⟩ = some (.slice Aa p.2.1.length ca) := (blk_cell HM9.out.box 0).trans rfl
            have hfs54 := blk_frozen HM9.out.box 0
            refine skip_ (w1 := ?_) (by rfl) rfl ?_ ?_
            rotate_left
            · go_simp
              rfl
            refine hK.out _ _ ?_
            clear hK K hs54 hfs54
            refine done_ (done_of HT_.out (by kernel_rfl)) ?_
            have HM1 := Aside0.mk (HM9.out.put (v := (.slice A22 (p.2.1.length + 1) c22)) H813.out HG13.out 0 rfl (blk_put HM9.out.box 0 _ rfl))
            have HROW1 := Aside0.mk (Kd.R_set HROW9.out HM9.out.box (by decide) 0 (.slice A22 (p.2.1.length + 1) c22))
            clear HM9 HROW9 HT_ HW_
            generalize w9.setCell ⟨g13, 0, none⟩ (.slice A22 (p.2.1.length + 1) c22) = w1 at HM1 HROW1 ⊢
            have hcz0 : w1.cell? ⟨g13, 0, none⟩ = some (.slice A22 (p.2.1.length + 1) c22) := (blk_cell HM1.out.box 0).trans rfl
            have hcz1 : w1.cell? ⟨g13, 1, none⟩ = some (.slice Ay p.2.2.length cy) := (blk_cell HM1.out.box 1).trans rfl
            have hfz1 := blk_frozen HM1.out.box 1
            go_wp2_with ((with_reducible refine gate_builtin (b := .append) (xs := #[.tmp 82, .tmp 84]) rfl ?_); at_builtin; refine Kd.S_append (Kd.slice 3 (Kd.int .i64)) (w0 := w) w.heap.size rfl (.tmp 82) (.tmp 84) 23 67 (.slice none 0 0) 24 rfl Try.underlying23 info67 rfl (by decide) (by omega) (.slice Ay p.2.2.length cy) p.2.2 row [.slice A15 row.length c15] (fun _ => True) (fun b => some b = (.slice A15 row.length c15 : Value).ownBlock) rfl rfl ?aP ?aK ?aF ?aO ?aB ?aS ?aL ?_; (case aP => exact Kd.M_row (Kd.R_tight rfl HROW1.out)); (case aK => exact (fun b hb => ⟨trivial, fun he => by have h1 := HOB.out b hb.symm; have h2 := (Kd.S_R HM1.out.rows).1 b he.symm; omega⟩)); (case aF => exact (fun _ _ => trivial)); (case aO => exact Kd.S_mono HM1.out.rows (fun b hb => ⟨trivial, fun he => by have h1 := HOB.out b he.symm; omega⟩)); (case aB => exact HM1.out.bel); (case aS => exact HM1.out.bel.size); (case aL => have := HLENS.out; omega); intro v23 w2 ho hb hg hat; have HM2 := Aside0.mk (HM1.out.rowsd hg ho hb); obtain ⟨A23, c23, e23⟩ := Kd.S_slice ho; rw [show (p.2.2 ++ [row]).length = p.2.2.length + 1 by simp] at e23; subst e23; clear ho hb hg hat hcz0 hcz1 hfz1; have hcz1 : w2.cell? ⟨g13, 1, none⟩ = some (.slice Ay p.2.2.length cy) := (blk_cell HM2.out.box 1).trans rfl; have hfz1 := blk_frozen HM2.out.box 1)
            go_roundg g
            case measure => omega
            case rel => exact ⟨(L, p.2.1 ++ [acc x], p.2.2 ++ [row]), i + 1, _, _, by rw [up1 (by have := HI3.out; have := HLE.out; have := hu_.out; omega)], ⟨HI3.out⟩, ⟨by have := HG.out; omega⟩, HLE, ⟨by have := HLN.out; simp; omega⟩, HEN, HDL, ⟨HM2.out.put (v := (.slice A23 (p.2.2.length + 1) c23)) H813.out HG13.out 1 rfl (blk_put HM2.out.box 1 _ rfl)⟩⟩
      ·
        rw [dif_neg hi] at hr
        subst hr
        have q1 : ((i : Int) < (p.1.length : Int)) = False := eq_false (by omega)
        have hcz0 : wr.cell? ⟨g13, 0, none⟩ = some (.slice Aa p.2.1.length ca) := (blk_cell HMEM.out.box 0).trans rfl
        have hcz1 : wr.cell? ⟨g13, 1, none⟩ = some (.slice Ay p.2.2.length cy) := (blk_cell HMEM.out.box 1).trans rfl
        have hcy0 : wr.cell? ⟨g8, 0, none⟩ = some (.slice none 0 0) := (blk_cell HMEM.out.res 0).trans rfl
        have hcy1 : wr.cell? ⟨g8, 1, none⟩ = some (.slice none 0 0) := (blk_cell HMEM.out.res 1).trans rfl
        have hfy0 := blk_frozen HMEM.out.res 0
        have hfy1 := blk_frozen HMEM.out.res 1
        have HB4' : Aside0 ((wr.setCell ⟨g8, 0, none⟩ (.slice Aa p.2.1.length ca)).heap[g8]? = some (.cells #[.slice Aa p.2.1.length ca, .slice none 0 0] 27 (0, 0))) := ⟨blk_put HMEM.out.res 0 _ rfl⟩
        have HT4 : Aside0 (((wr.setCell ⟨g8, 0, none⟩ (.slice Aa p.2.1.length ca)).setCell ⟨g8, 1, none⟩ (.slice Ay p.2.2.length cy)).heap[g8]? = some (.cells #[.slice Aa p.2.1.length ca, .slice Ay p.2.2.length cy] 27 (0, 0))) := ⟨blk_put HB4'.out 1 _ rfl⟩
        clear hi
        go_wp2
        refine bodyPost_ret (results_ctt rfl _ _ g8 27 #[.slice Aa p.2.1.length ca, .slice Ay p.2.2.length cy] (0, 0) _ rfl HT4.out Try.underlying27 rfl (by kernel_rfl)) rfl ?_
        exact ⟨_, _, _, rfl, Kd.R_set (Kd.R_set HMEM.out.acc HMEM.out.res (by decide) 0 _) HB4'.out (by decide) 1 _, Kd.S_set (Kd.S_set HMEM.out.rows HMEM.out.res (by decide) 0 _) HB4'.out (by decide) 1 _, below_set (below_set HMEM.out.bel HG8.out) HG8.out⟩
end Go.Proofs.Ytogamkblkoobkaa.Wk
end
section
namespace Go.Proofs.Ytogamkblkoobkaa.Can
open Go.RowKit Go.Proofs.Ytogamkblkoobkaa Go.Proofs.Ytogamkblkoobkaa.Lg Go.Proofs.Ytogamkblkoobkaa.Pl Go.Proofs.Ytogamkblkoobkaa.Mp Go.Proofs.Ytogamkblkoobkaa.Bf Go.Proofs.Ytogamkblkoobkaa.Mn Go.Proofs.YtogamkblkoobkaaW.PrintWords Go.Proofs.YtogamkblkoobkaaW.PrintLast Go.Proofs.YtogamkblkoobkaaW.PrintMore
set_option linter.unusedVariables false
set_option linter.unusedSimpArgs false
set_option linter.unusedSectionVars false
def Lan := List (Fin 3) → Bool
noncomputable instance decLan : DecidableEq Lan := fun _ _ => Classical.propDecidable _
instance : Inhabited Lan := ⟨fun _ => false⟩
def der (L : Lan) (k : Fin 3) : Lan := fun w => L (k :: w)
def lsucc (L : Lan) : List Lan := [der L 0, der L 1, der L 2]
def eps (L : Lan) : Bool := L []
noncomputable def outL (R : List Lan) : List Bool × List (List Int) := (R.map eps, R.map (fun X => (lsucc X).map (fun Y => (R.idxOf Y : Int))))
def IsCan (L : Lan) (out : List Bool × List (List Int)) : Prop := ∃ R, Runs lsucc [L] 0 R ∧ out = outL R
theorem IsCan.det {L : Lan} {a b : List Bool × List (List Int)} (h : IsCan L a) (h' : IsCan L b) : a = b := by
  obtain ⟨R, hR, rfl⟩ := h
  obtain ⟨R', hR', rfl⟩ := h'
  rw [hR.det hR']
structure Fits (acc : List Bool) (nx : List (List Int)) : Prop where
  len : nx.length = acc.length
  row : ∀ q : Int, 0 ≤ q ∧ q < (acc.length : Int) → (rowOf nx q).length = 3 ∧ ∀ x ∈ rowOf nx q, 0 ≤ x ∧ x < (acc.length : Int)
def run (acc : List Bool) (nx : List (List Int)) : List (Fin 3) → Int → Bool
  | [], q => rdOf false acc q
  | k :: w, q => run acc nx w (rd (rowOf nx q) (k.val : Int))
def lang (acc : List Bool) (nx : List (List Int)) (q : Int) : Lan := fun w => run acc nx w q
theorem three {r : List Int} (h : r.length = 3) : r = [rd r 0, rd r 1, rd r 2] := by
  match r, h with
  | [a, b, c], _ => rfl
theorem succ_lang {acc : List Bool} {nx : List (List Int)} (hf : Fits acc nx) {q : Int} (hq : 0 ≤ q ∧ q < (acc.length : Int)) : (rowOf nx q).map (lang acc nx) = lsucc (lang acc nx q) := by
  rw [three (hf.row q hq).1]
  rfl
section
variable {α β : Type} [DecidableEq α] [DecidableEq β]
theorem dd_map2 (f : α → β) (l : List α) : dd (l.map f) = dd ((dd l).map f) := (dd_adds f l []).symm
theorem dd_inj (g : α → β) (A : List α) (hg : ∀ a ∈ A, ∀ b ∈ A, g a = g b → a = b) : dd (A.map g) = (dd A).map g := by
  rw [dd_map2]
  refine dd_id ?_
  rw [List.nodup_iff_pairwise_ne, List.pairwise_map]
  refine (List.nodup_iff_pairwise_ne.mp (dd_nodup A)).imp_of_mem ?_
  intro a b ha hb hne h
  exact hne (hg a (mem_dd.mp ha) b (mem_dd.mp hb) h)
theorem idxOf_inj (g : α → β) : ∀ (R : List α) (a : α), (∀ b ∈ R, g b = g a → b = a) → (R.map g).idxOf (g a) = R.idxOf a
  | [], a, _ => rfl
  | b :: R, a, h => by
    rw [List.map_cons, List.idxOf_cons, List.idxOf_cons]
    rw [idxOf_inj g R a (fun c hc => h c (List.mem_cons_of_mem _ hc))]
    by_cases e : b = a
    · subst e
      rw [beq_self_eq_true, beq_self_eq_true]
    · have e2 : g b ≠ g a := fun h2 => e (h b List.mem_cons_self h2)
      rw [beq_eq_false_iff_ne.mpr e, beq_eq_false_iff_ne.mpr e2]
theorem nodup_of_dd : ∀ (l : List α), (dd l).length = l.length → l.Nodup := by
  intro l
  suffices H : ∀ (m k : List α), (adds k m).length = k.length + m.length → m.Nodup ∧ ∀ x ∈ m, x ∉ k by
    intro h
    exact (H l [] (by simpa [dd] using h)).1
  intro m
  induction m with
  | nil => intro k _; simp
  | cons y m ih =>
    intro k hk
    rw [adds_cons] at hk
    have hle : ∀ (m k : List α), (adds k m).length ≤ k.length + m.length := by
      intro m
      induction m with
      | nil => intro k; simp [adds_nil]
      | cons z m ih2 =>
        intro k
        rw [adds_cons]
        have := ih2 (add k z)
        have h2 : (add k z).length ≤ k.length + 1 := by unfold add; split <;> simp
        simp only [List.length_cons]
        omega
    by_cases hy : y ∈ k
    · rw [add_in hy] at hk
      have := hle m k
      simp only [List.length_cons] at hk
      omega
    · rw [add_out hy] at hk
      obtain ⟨h1, h2⟩ := ih (k ++ [y]) (by rw [hk]; simp; omega)
      refine ⟨List.nodup_cons.mpr ⟨fun hm => h2 y hm (by simp), h1⟩, fun x hx => ?_⟩
      rcases List.mem_cons.mp hx with rfl | hx
      · exact hy
      · exact fun hk => h2 x hx (by simp [hk])
theorem inj_of_len (f : α → β) (K : List α) (h : (dd (K.map f)).length = (dd K).length) : ∀ a ∈ K, ∀ b ∈ K, f a = f b → a = b := by
  rw [dd_map2] at h
  have h2 := nodup_of_dd ((dd K).map f) (by rw [h, List.length_map])
  intro a ha b hb hab
  obtain ⟨i, hi, rfl⟩ := List.mem_iff_getElem.mp (mem_dd.mpr ha)
  obtain ⟨j, hj, rfl⟩ := List.mem_iff_getElem.mp (mem_dd.mpr hb)
  have e1 := h2.idxOf_getElem i (by simpa using hi)
  have e2 := h2.idxOf_getElem j (by simpa using hj)
  rw [List.getElem_map] at e1 e2
  rw [hab, e2] at e1
  subst e1
  rfl
end
def Cf (os cl : List Int) (x : Int) : Int := rd cl (pl os x)
theorem pl_at {os : List Int} (hn : os.Nodup) (i : Nat) (hi : i < os.length) : pl os os[i] = (i : Int) := by
  have hm : os[i] ∈ os := List.getElem_mem hi
  show (idx os os[i]).getD 0 = _
  rw [← idx_val hm, hn.idxOf_getElem]
theorem Cf_at {os cl : List Int} (hn : os.Nodup) (hl : cl.length = os.length) (i : Nat) (hi : i < os.length) : Cf os cl os[i] = cl[i] := by
  unfold Cf
  rw [pl_at hn i hi, rd_get cl i (by omega)]
theorem cl_map {os cl : List Int} (hn : os.Nodup) (hl : cl.length = os.length) : os.map (Cf os cl) = cl := by
  apply List.ext_getElem
  · simp [hl]
  · intro i h1 h2
    rw [List.getElem_map, Cf_at hn hl]
def Kx (l1 : List (List Int)) (os cl : List Int) (x : Int) : K4 := (Cf os cl x, Cf os cl (rd (rowOf l1 x) 0), Cf os cl (rd (rowOf l1 x) 1), Cf os cl (rd (rowOf l1 x) 2))
theorem keys_map {l1 : List (List Int)} {os cl : List Int} (hn : os.Nodup) (hl : cl.length = os.length) : keys l1 os cl = os.map (Kx l1 os cl) := by
  apply List.ext_getElem
  · simp [keys]
  · intro i h1 h2
    have hi : i < os.length := by simpa [keys] using h1
    simp only [keys, List.getElem_map, List.getElem_range, keyAt, Kx]
    rw [Cf_at hn hl i hi]
    simp only [List.getD_eq_getElem?_getD, List.getElem?_eq_getElem hi, List.getElem?_eq_getElem (show i < cl.length by omega), Option.getD_some]
    rfl
def nmOf {α : Type} [DecidableEq α] (D : List α) (k : α) : Int := (D.idxOf k : Int)
theorem nm_snd {α : Type} [DecidableEq α] (K : List α) : (nmF K [] []).2 = K.map (nmOf (dd K)) := by rw [nm_eq]; rfl
theorem nm_fst {α : Type} [DecidableEq α] (K : List α) : (nmF K [] []).1 = dd K := by rw [nm_eq]
theorem idxOf_eq_iff {α : Type} [DecidableEq α] {l : List α} {a b : α} (ha : a ∈ l) (hb : b ∈ l) : l.idxOf a = l.idxOf b ↔ a = b := by
  constructor
  · intro h
    have h1 := List.getElem_idxOf (List.idxOf_lt_length_of_mem ha)
    have h2 := List.getElem_idxOf (List.idxOf_lt_length_of_mem hb)
    rw [← h1, ← h2]
    congr 1
  · rintro rfl; rfl
theorem nmOf_iff {α : Type} [DecidableEq α] {l : List α} {a b : α} (ha : a ∈ l) (hb : b ∈ l) : nmOf l a = nmOf l b ↔ a = b := by
  rw [← idxOf_eq_iff ha hb]
  unfold nmOf
  omega
theorem Cf_next {l1 : List (List Int)} {os cl : List Int} (hn : os.Nodup) (hl : cl.length = os.length) {x : Int} (hx : x ∈ os) : Cf os (nmF (keys l1 os cl) [] []).2 x = nmOf (dd (os.map (Kx l1 os cl))) (Kx l1 os cl x) := by
  obtain ⟨i, hi, rfl⟩ := List.mem_iff_getElem.mp hx
  rw [Cf_at hn (by rw [nm_snd]; simp [keys]) i hi]
  simp only [nm_snd, keys_map hn hl, List.getElem_map]
theorem next_iff {l1 : List (List Int)} {os cl : List Int} (hn : os.Nodup) (hl : cl.length = os.length) {x y : Int} (hx : x ∈ os) (hy : y ∈ os) :
    Cf os (nmF (keys l1 os cl) [] []).2 x = Cf os (nmF (keys l1 os cl) [] []).2 y ↔ Kx l1 os cl x = Kx l1 os cl y := by
  rw [Cf_next hn hl hx, Cf_next hn hl hy]
  exact nmOf_iff (mem_dd.mpr (List.mem_map_of_mem hx)) (mem_dd.mpr (List.mem_map_of_mem hy))
theorem ref_good {acc : List Bool} {l1 : List (List Int)} {os : List Int} (hf : Fits acc l1) (hn : os.Nodup) (hpos : 1 ≤ os.length) (hdom : ∀ x ∈ os, 0 ≤ x ∧ x < (acc.length : Int)) (hcl : ∀ x ∈ os, ∀ y ∈ rowOf l1 x, y ∈ os) :
    ∀ (d : Nat) (cl : List Int) (c : Nat), cl.length = os.length → (∀ x ∈ os, ∀ y ∈ os, lang acc l1 x = lang acc l1 y → Cf os cl x = Cf os cl y) → (∀ x ∈ os, ∀ y ∈ os, Cf os cl x = Cf os cl y → rdOf false acc x = rdOf false acc y) →
      (c = 0 ∨ c = (dd cl).length) → os.length + 2 ≤ d + c → ∀ cf, refF l1 os d cl c = cf → cf.length = os.length ∧ ∀ x ∈ os, ∀ y ∈ os, (Cf os cf x = Cf os cf y ↔ lang acc l1 x = lang acc l1 y) := by
  intro d
  induction d with
  | zero =>
    intro cl c hl h1 h2 hc hd cf
    have := dd_len_le cl
    omega
  | succ d ih =>
    intro cl c hl h1 h2 hc hd cf hcf
    have mem3 : ∀ x ∈ os, rd (rowOf l1 x) 0 ∈ os ∧ rd (rowOf l1 x) 1 ∈ os ∧ rd (rowOf l1 x) 2 ∈ os := fun x hx => by
      have h3 := three (hf.row x (hdom x hx)).1
      have := hcl x hx
      rw [h3] at this
      exact ⟨this _ (by simp), this _ (by simp), this _ (by simp)⟩
    have g1 : ∀ x ∈ os, ∀ y ∈ os, lang acc l1 x = lang acc l1 y → Cf os (nmF (keys l1 os cl) [] []).2 x = Cf os (nmF (keys l1 os cl) [] []).2 y := fun x hx y hy h => by
      rw [next_iff hn hl hx hy]
      unfold Kx
      rw [h1 x hx y hy h, h1 _ (mem3 x hx).1 _ (mem3 y hy).1 (congrArg (fun L => der L 0) h), h1 _ (mem3 x hx).2.1 _ (mem3 y hy).2.1 (congrArg (fun L => der L 1) h), h1 _ (mem3 x hx).2.2 _ (mem3 y hy).2.2 (congrArg (fun L => der L 2) h)]
    have g2 : ∀ x ∈ os, ∀ y ∈ os, Cf os (nmF (keys l1 os cl) [] []).2 x = Cf os (nmF (keys l1 os cl) [] []).2 y → rdOf false acc x = rdOf false acc y := fun x hx y hy h => by
      rw [next_iff hn hl hx hy] at h
      exact h2 x hx y hy (congrArg (fun k : K4 => k.1) h)
    have gl : (nmF (keys l1 os cl) [] []).2.length = os.length := by rw [nm_snd]; simp [keys]
    have hK1 : (nmF (keys l1 os cl) [] []).1.length = (dd (os.map (Kx l1 os cl))).length := by rw [nm_fst, keys_map hn hl]
    rw [refF] at hcf
    by_cases he : (nmF (keys l1 os cl) [] []).1.length = c
    · rw [if_pos he] at hcf
      subst hcf
      refine ⟨gl, fun x hx y hy => ⟨fun h => ?_, g1 x hx y hy⟩⟩
      have hpos2 : 0 < (dd (os.map (Kx l1 os cl))).length := by
        have : os ≠ [] := fun e => by rw [e] at hpos; simp at hpos
        obtain ⟨a, ha⟩ := List.exists_mem_of_ne_nil os this
        exact List.length_pos_of_mem (mem_dd.mpr (List.mem_map_of_mem ha))
      have hcd : c = (dd cl).length := by
        rcases hc with hc | hc
        · omega
        · exact hc
      have hfst : (os.map (Kx l1 os cl)).map (fun k : K4 => k.1) = cl := by
        rw [List.map_map]
        exact cl_map hn hl
      have hinj := inj_of_len (fun k : K4 => k.1) (os.map (Kx l1 os cl)) (by rw [hfst]; omega)
      have hst : ∀ x ∈ os, ∀ y ∈ os, Cf os cl x = Cf os cl y → Kx l1 os cl x = Kx l1 os cl y := fun x hx y hy h => hinj _ (List.mem_map_of_mem hx) _ (List.mem_map_of_mem hy) h
      have hrun : ∀ w : List (Fin 3), ∀ x ∈ os, ∀ y ∈ os, Cf os cl x = Cf os cl y → run acc l1 w x = run acc l1 w y := by
        intro w
        induction w with
        | nil => exact h2
        | cons k w ihw =>
          intro x hx y hy hxy
          have hk := hst x hx y hy hxy
          unfold Kx at hk
          injection hk with _ hk
          injection hk with hk0 hk
          injection hk with hk1 hk2
          match k with
          | 0 => exact ihw _ (mem3 x hx).1 _ (mem3 y hy).1 hk0
          | 1 => exact ihw _ (mem3 x hx).2.1 _ (mem3 y hy).2.1 hk1
          | 2 => exact ihw _ (mem3 x hx).2.2 _ (mem3 y hy).2.2 hk2
      rw [next_iff hn hl hx hy] at h
      have h0 : Cf os cl x = Cf os cl y := congrArg (fun k : K4 => k.1) h
      exact funext fun w => hrun w x hx y hy h0
    · rw [if_neg he] at hcf
      have hmore := keys_more (l1 := l1) hl
      rw [keys_map hn hl] at hmore
      have hlen2 : (nmF (keys l1 os cl) [] []).1.length = (dd (nmF (keys l1 os cl) [] []).2).length := by rw [nm_classes, nm_fst]
      refine ih _ _ gl g1 g2 (Or.inr hlen2) ?_ cf hcf
      rcases hc with hc | hc
      · have hpos2 : 0 < (dd (os.map (Kx l1 os cl))).length := by
          have : os ≠ [] := fun e => by rw [e] at hpos; simp at hpos
          obtain ⟨a, ha⟩ := List.exists_mem_of_ne_nil os this
          exact List.length_pos_of_mem (mem_dd.mpr (List.mem_map_of_mem ha))
        omega
      · omega
theorem card_n (n : Nat) (s : List Int) (hn : s.Nodup) (h : ∀ x ∈ s, 0 ≤ x ∧ x < n) : s.length ≤ n := by
  have := nodup_len s ((List.range n).map fun (i : Nat) => (i : Int)) hn (fun x hx => by
    have := h x hx
    exact List.mem_map.mpr ⟨x.toNat, List.mem_range.mpr (by omega), by omega⟩)
  simpa using this
theorem ord_runs {acc : List Bool} {l1 : List (List Int)} (hf : Fits acc l1) : ∀ (d : Nat) (L : List Int) (i : Nat), L.Nodup → (∀ x ∈ L, 0 ≤ x ∧ x < (acc.length : Int)) → acc.length ≤ d + i → Runs (rowOf l1) L i (ordF l1 d L i)
  | 0, L, i, hn, ha, hd => .stop (by have := card_n acc.length L hn ha; omega)
  | d + 1, L, i, hn, ha, hd => by
    rw [ordF]
    by_cases h : i < L.length
    · rw [dif_pos h]
      refine .step h (ord_runs hf d _ _ (nodup_adds _ hn) (fun x hx => ?_) (by omega))
      rcases mem_adds.mp hx with q | q
      · exact ha x q
      · exact (hf.row _ (ha _ (List.getElem_mem h))).2 x q
    · rw [dif_neg h]
      exact .stop (by omega)
theorem ld_good (cl : List Int) : ∀ (m : List Int) (i : Nat) (ns ls : List Int), m = cl.drop i → ns = dd (cl.take i) → ls.map (rd cl) = ns → (∀ x ∈ ls, 0 ≤ x ∧ x < (cl.length : Int)) →
    (ldF m i ns ls).1 = dd cl ∧ (ldF m i ns ls).2.map (rd cl) = dd cl ∧ ∀ x ∈ (ldF m i ns ls).2, 0 ≤ x ∧ x < (cl.length : Int)
  | [], i, ns, ls, hm, hns, hls, hb => by
    have hi : cl.length ≤ i := by
      have := congrArg List.length hm
      simp only [List.length_nil, List.length_drop] at this
      omega
    rw [List.take_of_length_le hi] at hns
    rw [ldF, ← hns]
    exact ⟨rfl, hls, hb⟩
  | c :: m, i, ns, ls, hm, hns, hls, hb => by
    have hi : i < cl.length := by
      have := congrArg List.length hm
      simp only [List.length_cons, List.length_drop] at this
      omega
    rw [List.drop_eq_getElem_cons hi] at hm
    injection hm with hc hm
    have ht : dd (cl.take (i + 1)) = add ns c := by rw [List.take_succ_eq_append_getElem hi, dd_snoc, ← hns, hc]
    rw [ldF]
    by_cases h : c ∈ ns
    · rw [if_pos h]
      exact ld_good cl m (i + 1) ns ls hm (by rw [ht, add_in h]) hls hb
    · rw [if_neg h]
      refine ld_good cl m (i + 1) _ _ hm (by rw [ht, add_out h]) ?_ ?_
      · rw [List.map_append, hls, List.map_singleton, rd_get cl i hi, hc]
      · intro x hx
        rcases List.mem_append.mp hx with q | q
        · exact hb x q
        · rw [List.mem_singleton] at q; subst q; omega
theorem min_can {acc : List Bool} {l1 : List (List Int)} (hf : Fits acc l1) {st : Int} (hst : 0 ≤ st ∧ st < (acc.length : Int)) : IsCan (lang acc l1 st) (minD acc l1 st) := by
  have h0 : ∀ x ∈ [st], 0 ≤ x ∧ x < (acc.length : Int) := fun x hx => by rw [List.mem_singleton] at hx; subst hx; exact hst
  have hR := ord_runs hf (acc.length + 2) [st] 0 (by simp) h0 (by omega)
  unfold minD minT
  generalize ordF l1 (acc.length + 2) [st] 0 = os at hR
  have hn : os.Nodup := hR.nodup (by simp)
  have hdom := hR.all (p := fun x => 0 ≤ x ∧ x < (acc.length : Int)) (fun x hx y hy => (hf.row x hx).2 y hy) h0
  have hcl := hR.closed (fun j _ hj => by omega)
  have hpos : 1 ≤ os.length := hR.pre.length_le
  have hcan := hR.map0 (dom := fun x => 0 ≤ x ∧ x < (acc.length : Int)) (succ' := lsucc) (f := lang acc l1) (fun x hx y hy => (hf.row x hx).2 y hy) (fun x hx => succ_lang hf hx) hst
  have hl0 : (os.map (cls0 acc)).length = os.length := by simp
  have hc0 : ∀ x ∈ os, Cf os (os.map (cls0 acc)) x = cls0 acc x := fun x hx => by
    obtain ⟨i, hi, rfl⟩ := List.mem_iff_getElem.mp hx
    rw [Cf_at hn hl0 i hi, List.getElem_map]
  obtain ⟨hcl2, hiff⟩ := ref_good hf hn hpos hdom hcl (os.length + 2) (os.map (cls0 acc)) 0 hl0 (fun x hx y hy h => by
    rw [hc0 x hx, hc0 y hy]
    have : rdOf false acc x = rdOf false acc y := congrFun h []
    unfold cls0
    rw [this]) (fun x hx y hy h => by
    rw [hc0 x hx, hc0 y hy] at h
    unfold cls0 at h
    cases hx : rdOf false acc x <;> cases hy : rdOf false acc y <;> simp [hx, hy] at h ⊢) (Or.inl rfl) (by omega) _ rfl
  generalize refF l1 os (os.length + 2) (os.map (cls0 acc)) 0 = cf at hcl2 hiff
  obtain ⟨e1, e2, e3⟩ := ld_good cf cf 0 [] [] rfl rfl rfl (fun x hx => by cases hx)
  unfold outD
  generalize hns : (ldF cf 0 [] []).1 = ns at e1
  generalize hls : (ldF cf 0 [] []).2 = ls at e2 e3
  have hg : ∃ g : Int → Lan, ∀ x ∈ os, g (Cf os cf x) = lang acc l1 x := by
    refine ⟨fun c => lang acc l1 (rd os ((cf.idxOf c : Nat) : Int)), fun x hx => ?_⟩
    obtain ⟨i, hi, rfl⟩ := List.mem_iff_getElem.mp hx
    rw [Cf_at hn hcl2 i hi]
    have hm : cf[i] ∈ cf := List.getElem_mem (by omega)
    have hlt := List.idxOf_lt_length_of_mem hm
    have hat : cf[cf.idxOf cf[i]] = cf[i] := List.getElem_idxOf hlt
    show lang acc l1 (rd os ((cf.idxOf cf[i] : Nat) : Int)) = _
    rw [rd_get os _ (by omega)]
    refine (hiff _ (List.getElem_mem _) _ (List.getElem_mem hi)).mp ?_
    rw [Cf_at hn hcl2, Cf_at hn hcl2 i hi, hat]
  obtain ⟨g, hg⟩ := hg
  have hgc : cf.map g = os.map (lang acc l1) := by
    conv => lhs; rw [← cl_map hn hcl2]
    rw [List.map_map]
    exact List.map_congr_left fun x hx => hg x hx
  have hmem : ∀ c ∈ cf, ∃ x ∈ os, c = Cf os cf x := fun c hc => by
    rw [← cl_map hn hcl2] at hc
    obtain ⟨x, hx, rfl⟩ := List.mem_map.mp hc
    exact ⟨x, hx, rfl⟩
  have hinj : ∀ a ∈ cf, ∀ b ∈ cf, g a = g b → a = b := fun a ha b hb h => by
    obtain ⟨x, hx, rfl⟩ := hmem a ha
    obtain ⟨y, hy, rfl⟩ := hmem b hb
    rw [hg x hx, hg y hy] at h
    exact (hiff x hx y hy).mpr h
  have hdd : dd (os.map (lang acc l1)) = (dd cf).map g := by rw [← hgc]; exact dd_inj g cf hinj
  have hgi : ∀ i ∈ ls, rd os i ∈ os ∧ g (rd cf i) = lang acc l1 (rd os i) := fun i hi => by
    have hb := e3 i hi
    have ht : i.toNat < os.length := by omega
    have h1 := rd_get os i.toNat ht
    have h2 := rd_get cf i.toNat (by omega)
    rw [Int.toNat_of_nonneg hb.1] at h1 h2
    rw [h1, h2, ← Cf_at hn hcl2 i.toNat ht]
    exact ⟨List.getElem_mem ht, hg _ (List.getElem_mem ht)⟩
  have hR2 : dd (os.map (lang acc l1)) = ls.map (fun i => lang acc l1 (rd os i)) := by
    rw [hdd, ← e2, List.map_map]
    exact List.map_congr_left fun i hi => (hgi i hi).2
  refine ⟨_, hcan, ?_⟩
  unfold outL
  refine Prod.ext ?_ ?_
  · show ls.map _ = _
    rw [hR2, List.map_map]
    rfl
  · have hh : ∀ F : Lan → List Int, (dd (os.map (lang acc l1))).map F = ls.map (fun i => F (lang acc l1 (rd os i))) := fun F => by rw [hR2, List.map_map]; rfl
    show ls.map (outRow l1 os cf ns) = (dd (os.map (lang acc l1))).map _
    rw [hh]
    refine List.map_congr_left fun i hi => ?_
    have hx := (hgi i hi).1
    show outRow l1 os cf ns i = (lsucc (lang acc l1 (rd os i))).map _
    rw [← succ_lang hf (hdom _ hx), List.map_map]
    unfold outRow
    refine List.map_congr_left fun y hy => ?_
    have hyo := hcl _ hx y hy
    show (idx ns (Cf os cf y)).getD 0 = ((dd (os.map (lang acc l1))).idxOf (lang acc l1 y) : Int)
    have hcm : Cf os cf y ∈ cf := by
      have h1 : Cf os cf y ∈ os.map (Cf os cf) := List.mem_map_of_mem hyo
      rw [cl_map hn hcl2] at h1
      exact h1
    rw [e1, ← idx_val (mem_dd.mpr hcm), hdd, ← hg y hyo, idxOf_inj g (dd cf) _ (fun b hb h => hinj b (mem_dd.mp hb) _ hcm h)]
end Go.Proofs.Ytogamkblkoobkaa.Can
end
section
namespace Go.Proofs.Ytogamkblkoobkaa.Can
open Go.RowKit Go.Proofs.Ytogamkblkoobkaa Go.Proofs.Ytogamkblkoobkaa.Lg Go.Proofs.Ytogamkblkoobkaa.Pl Go.Proofs.Ytogamkblkoobkaa.Mp Go.Proofs.Ytogamkblkoobkaa.Bf Go.Proofs.Ytogamkblkoobkaa.Mn Go.Proofs.YtogamkblkoobkaaW.PrintWords Go.Proofs.YtogamkblkoobkaaW.PrintLast Go.Proofs.YtogamkblkoobkaaW.PrintMore
set_option linter.unusedVariables false
set_option linter.unusedSimpArgs false
set_option linter.unusedSectionVars false
def trunc (r : Nat) (L : Lan) : Lan := fun w => if w.length ≤ r then L w else false
theorem trunc_trunc (r : Nat) (L : Lan) : trunc r (trunc (r + 1) L) = trunc r L := by
  funext w
  unfold trunc
  by_cases h : w.length ≤ r
  · rw [if_pos h, if_pos h, if_pos (by omega)]
  · rw [if_neg h, if_neg h]
theorem trunc_zero {L M : Lan} : trunc 0 L = trunc 0 M ↔ eps L = eps M := by
  constructor
  · intro h
    exact congrFun h []
  · intro h
    funext w
    unfold trunc
    by_cases hw : w.length ≤ 0
    · rw [if_pos hw, if_pos hw]
      have : w = [] := List.length_eq_zero_iff.mp (by omega)
      subst this
      exact h
    · rw [if_neg hw, if_neg hw]
theorem trunc_succ {r : Nat} {L M : Lan} : trunc (r + 1) L = trunc (r + 1) M ↔ eps L = eps M ∧ ∀ k, trunc r (der L k) = trunc r (der M k) := by
  constructor
  · intro h
    refine ⟨congrFun h [], fun k => funext fun w => ?_⟩
    have := congrFun h (k :: w)
    unfold trunc at this ⊢
    by_cases hw : w.length ≤ r
    · rw [if_pos (by simp; omega), if_pos (by simp; omega)] at this
      rw [if_pos hw, if_pos hw]
      exact this
    · rw [if_neg hw, if_neg hw]
  · rintro ⟨h0, h⟩
    funext w
    cases w with
    | nil => exact h0
    | cons k w =>
      have := congrFun (h k) w
      unfold trunc at this ⊢
      by_cases hw : w.length ≤ r
      · rw [if_pos hw, if_pos hw] at this
        rw [if_pos (by simp; omega), if_pos (by simp; omega)]
        exact this
      · rw [if_neg (by simp; omega), if_neg (by simp; omega)]
theorem lan_of_trunc {L M : Lan} (h : ∀ r, trunc r L = trunc r M) : L = M := by
  funext w
  have := congrFun (h w.length) w
  unfold trunc at this
  rw [if_pos (Nat.le_refl _), if_pos (Nat.le_refl _)] at this
  exact this
section
variable {acc : List Bool} {nx : List (List Int)}
def sig (acc : List Bool) (nx : List (List Int)) (r : Nat) (q : Int) : Lan := trunc r (lang acc nx q)
theorem sig_zero {p q : Int} : sig acc nx 0 p = sig acc nx 0 q ↔ rdOf false acc p = rdOf false acc q := trunc_zero
theorem sig_succ {r : Nat} {p q : Int} : sig acc nx (r + 1) p = sig acc nx (r + 1) q ↔ rdOf false acc p = rdOf false acc q ∧ ∀ k : Fin 3, sig acc nx r (rd (rowOf nx p) (k.val : Int)) = sig acc nx r (rd (rowOf nx q) (k.val : Int)) := trunc_succ
theorem sig_down {r : Nat} {p q : Int} (h : sig acc nx (r + 1) p = sig acc nx (r + 1) q) : sig acc nx r p = sig acc nx r q := by
  have := congrArg (trunc r) h
  unfold sig at this ⊢
  rw [trunc_trunc, trunc_trunc] at this
  exact this
def states (n : Nat) : List Int := (List.range n).map fun (i : Nat) => (i : Int)
theorem mem_states {n : Nat} {q : Int} : q ∈ states n ↔ 0 ≤ q ∧ q < (n : Int) := by
  unfold states
  rw [List.mem_map]
  constructor
  · rintro ⟨i, hi, rfl⟩
    rw [List.mem_range] at hi
    omega
  · intro h
    exact ⟨q.toNat, List.mem_range.mpr (by omega), by omega⟩
theorem rd_mem {r : List Int} (h : r.length = 3) (k : Fin 3) : rd r (k.val : Int) ∈ r := by
  rw [rd_get r k.val (by omega)]
  exact List.getElem_mem _
theorem sig_stable (hf : Fits acc nx) {r : Nat} (h : ∀ p ∈ states acc.length, ∀ q ∈ states acc.length, sig acc nx r p = sig acc nx r q → sig acc nx (r + 1) p = sig acc nx (r + 1) q) :
    ∀ d : Nat, ∀ p ∈ states acc.length, ∀ q ∈ states acc.length, sig acc nx r p = sig acc nx r q → sig acc nx (r + d) p = sig acc nx (r + d) q := by
  have hstep : ∀ d : Nat, ∀ p ∈ states acc.length, ∀ q ∈ states acc.length, sig acc nx (r + d) p = sig acc nx (r + d) q → sig acc nx (r + d + 1) p = sig acc nx (r + d + 1) q := by
    intro d
    induction d with
    | zero => exact h
    | succ d ih =>
      intro p hp q hq hpq
      rw [sig_succ]
      have h1 := sig_succ.mp hpq
      refine ⟨h1.1, fun k => ?_⟩
      have hp3 := hf.row p (mem_states.mp hp)
      have hq3 := hf.row q (mem_states.mp hq)
      exact ih _ (mem_states.mpr (hp3.2 _ (rd_mem hp3.1 k))) _ (mem_states.mpr (hq3.2 _ (rd_mem hq3.1 k))) (h1.2 k)
  intro d
  induction d with
  | zero => exact fun p hp q hq h => h
  | succ d ih => exact fun p hp q hq h => hstep d p hp q hq (ih p hp q hq h)
theorem sig_all (hf : Fits acc nx) {m : Nat} (hm : acc.length ≤ m) {p q : Int} (hp : 0 ≤ p ∧ p < (acc.length : Int)) (hq : 0 ≤ q ∧ q < (acc.length : Int)) : sig acc nx m p = sig acc nx m q ↔ lang acc nx p = lang acc nx q := by
  constructor
  · intro h
    have hex : ∃ r, r ≤ m ∧ ∀ p ∈ states acc.length, ∀ q ∈ states acc.length, sig acc nx r p = sig acc nx r q → sig acc nx (r + 1) p = sig acc nx (r + 1) q := by
      refine Classical.byContradiction fun hno => ?_
      have hlt : ∀ r, r ≤ m → (dd ((states acc.length).map (sig acc nx r))).length < (dd ((states acc.length).map (sig acc nx (r + 1)))).length := by
        intro r hr
        have e : (states acc.length).map (sig acc nx r) = ((states acc.length).map (sig acc nx (r + 1))).map (trunc r) := by
          rw [List.map_map]
          exact List.map_congr_left fun x _ => (trunc_trunc r (lang acc nx x)).symm
        have hle := dd_map_le (trunc r) ((states acc.length).map (sig acc nx (r + 1)))
        rw [← e] at hle
        refine Nat.lt_of_le_of_ne hle fun heq => hno ⟨r, hr, fun p hp q hq hpq => ?_⟩
        refine inj_of_len (trunc r) _ (by rw [← e]; exact heq) _ (List.mem_map_of_mem hp) _ (List.mem_map_of_mem hq) ?_
        show trunc r (trunc (r + 1) _) = trunc r (trunc (r + 1) _)
        rw [trunc_trunc, trunc_trunc]
        exact hpq
      have hge : ∀ r, r ≤ m + 1 → r ≤ (dd ((states acc.length).map (sig acc nx r))).length := by
        intro r
        induction r with
        | zero => intro _; exact Nat.zero_le _
        | succ r ih =>
          intro hr
          have := hlt r (by omega)
          have := ih (by omega)
          omega
      have h1 := hge (m + 1) (Nat.le_refl _)
      have h2 := dd_len_le ((states acc.length).map (sig acc nx (m + 1)))
      have h3 : ((states acc.length).map (sig acc nx (m + 1))).length = acc.length := by simp [states]
      omega
    obtain ⟨r, hr, hst⟩ := hex
    have h0 : sig acc nx r p = sig acc nx r q := by
      obtain ⟨d, rfl⟩ : ∃ d, m = r + d := ⟨m - r, by omega⟩
      clear hst hr hm
      induction d with
      | zero => exact h
      | succ d ih => exact ih (sig_down h)
    refine lan_of_trunc fun s => ?_
    have h1 := sig_stable hf hst s p (mem_states.mpr hp) q (mem_states.mpr hq) h0
    have hdown : ∀ d t : Nat, sig acc nx (t + d) p = sig acc nx (t + d) q → sig acc nx t p = sig acc nx t q := by
      intro d
      induction d with
      | zero => exact fun t h => h
      | succ d ih => exact fun t h => ih t (sig_down h)
    exact hdown r s (by rw [Nat.add_comm]; exact h1)
  · intro h
    unfold sig
    rw [h]
end
end Go.Proofs.Ytogamkblkoobkaa.Can
end
section
namespace Go.Proofs.Ytogamkblkoobkaa.P
open Go.RowKit Go.Proofs.YtogamkblkoobkaaW.PrintWords Go.Proofs.YtogamkblkoobkaaW.PrintLast Go.Proofs.YtogamkblkoobkaaW.PrintMore
attribute [local go_sem] max2_int min2_int max_two min_two max_three min_three max_four min_four
set_option linter.unusedVariables false
set_option linter.unusedSimpArgs false
def spec_l5Find.l0 : Nat → List Int → Int → Int → Option (Int)
  | 0, _, _, _ => none
  | k + 1, x0, x1, x5 => if x5 < (x0.length : Int) then (if 0 ≤ x5 then (if (rd x0 x5) = x1 then (some x5) else (spec_l5Find.l0 k x0 x1 (wrap64 (x5 + 1)))) else (none)) else (some (-1))
def spec_l5Find.f (k : Nat) (l0 : List Int) (a1 : Int) : Option (Int) := spec_l5Find.l0 k l0 a1 0
theorem spec_l5Find.mono_l : ∀ k, (∀ y0 y1 y2, LeO (spec_l5Find.l0 k y0 y1 y2) (spec_l5Find.l0 (k + 1) y0 y1 y2))
  | 0 => fun _ _ _ r h => by simp [spec_l5Find.l0] at h
  | k + 1 => by
    have ih0 := spec_l5Find.mono_l k
    · intro y0 y1 y2
      unfold spec_l5Find.l0
      repeat' first
      | (with_reducible exact ih0 _ _ _)
      | (with_reducible exact LeO.refl _)
      | (with_reducible exact LeO.none _)
      | (with_reducible refine LeO.ite ?_ ?_)
      | (with_reducible refine LeO.bind ?_ (fun _ => ?_))
      | exact ih0 _ _ _
      | exact LeO.none _
      | refine LeO.ite ?_ ?_
      | refine LeO.bind ?_ (fun _ => ?_)
theorem spec_l5Find.mono : ∀ a0 a1 k, LeO (spec_l5Find.f k a0 a1) (spec_l5Find.f (k + 1) a0 a1) := by
  intro a0 a1 k
  have ih0 := spec_l5Find.mono_l k
  unfold spec_l5Find.f
  repeat' first
      | (with_reducible exact ih0 _ _ _)
      | (with_reducible exact LeO.refl _)
      | (with_reducible exact LeO.none _)
      | (with_reducible refine LeO.ite ?_ ?_)
      | (with_reducible refine LeO.bind ?_ (fun _ => ?_))
      | exact ih0 _ _ _
      | exact LeO.none _
      | refine LeO.ite ?_ ?_
      | refine LeO.bind ?_ (fun _ => ?_)
set_option maxHeartbeats 8000000 in
set_option maxRecDepth 100000 in
theorem spec_l5Find.calls (k : Nat) (A0 : Option Addr) (c0 : Nat) (l0 : List Int) (a1 : Int) (r : Int) (w : World) (hr0 : Kd.C (Kd.int .i64) w A0 l0.length l0) (hc0 : l0.length ≤ c0) (h : spec_l5Find.f k l0 a1 = some r) :
    Calls Try.prog 63 #[.slice A0 l0.length c0, .int .i64 a1] w fun e w' => e = .returned (.int .i64 r) ∧ Drawn0 w w' := by
  have HR0 := Aside0.mk hr0
  have HC0 := Aside0.mk hc0
  clear hr0 hc0
  have H : (spec_l5Find.l0 k l0 a1 0) = some r := h
  clear h
  have H' := Aside0.mk H
  clear H
  go_enter Try.func63, Try.ntmps63
  go_wp2
  go_loopg [5] k (fun kq v5 w' => ∃ (x5_1 : Int), v5 = .int .i64 x5_1 ∧ Aside0 (spec_l5Find.l0 kq l0 a1 x5_1 = some r) ∧ Aside0 (kq ≤ k) ∧ Drawn0 w w')
  case atStart => exact ⟨(0), (by first | rfl | (simp; done) | (simp [*]; done)), H', ⟨Nat.le_refl _⟩, by repeat (first | exact Drawn0.refl _ | apply Drawn0.step)⟩
  case round =>
    clear H'
    try clear p2
    obtain ⟨x5_1, rfl, HA, HK1, ⟨m1, rfl⟩⟩ := hrel
    cases gk with
    | zero => exact absurd HA.out (by simp [spec_l5Find.l0])
    | succ k1 =>
      have H := HA.out
      clear HA
      simp only [spec_l5Find.l0] at H
      by_cases c3 : x5_1 < (l0.length : Int)
      · rw [if_pos c3] at H
        have c3b0 : decide (x5_1 < (l0.length : Int)) = true := decide_eq_true c3
        clear c3
        by_cases c4 : 0 ≤ x5_1
        · rw [if_pos c4] at H
          have c4b0 : decide (0 ≤ x5_1) = true := decide_eq_true c4
          clear c4
          by_cases c5 : (rd l0 x5_1) = a1
          · rw [if_pos c5] at H
            have c5b0 : ((rd l0 x5_1) == a1) = true := beq_iff_eq.mpr c5
            have c5b1 : ((rd l0 x5_1) != a1) = false := bne_eq_false_iff_eq.mpr c5
            clear c5
            obtain rfl := Option.some.inj H
            simp only [Option.some.injEq, Prod.mk.injEq] at H
            obtain ⟨rfl⟩ := H
            have p120 : 0 ≤ (x5_1 : Int) := of_decide_eq_true (by first | (with_reducible assumption) | assumption)
            have q120 : x5_1 < (l0.length : Int) := of_decide_eq_true (by first | (with_reducible assumption) | assumption)
            obtain ⟨ad120, e120, hx120_0⟩ := Kd.at_int HR0.out x5_1 p120 q120
            cases e120
            replace p120 := eq_true p120
            replace q120 := eq_true q120
            go_wp2
            go_ret
            exact ⟨by first | rfl | (simp; done) | (simp [*]; done), by repeat (first | exact Drawn0.refl _ | apply Drawn0.step)⟩
          · rw [if_neg c5] at H
            have c5b0 : ((rd l0 x5_1) == a1) = false := beq_eq_false_iff_ne.mpr c5
            have c5b1 : ((rd l0 x5_1) != a1) = true := bne_iff_ne.mpr c5
            have H' := Aside0.mk H
            clear H
            have p120 : 0 ≤ (x5_1 : Int) := of_decide_eq_true (by first | (with_reducible assumption) | assumption)
            have q120 : x5_1 < (l0.length : Int) := of_decide_eq_true (by first | (with_reducible assumption) | assumption)
            obtain ⟨ad120, e120, hx120_0⟩ := Kd.at_int HR0.out x5_1 p120 q120
            cases e120
            replace p120 := eq_true p120
            replace q120 := eq_true q120
            go_wp2
            go_roundg k1
            case measure => have := HK1.out; omega
            case rel => exact ⟨(wrap64 (x5_1 + 1)), (by first | rfl | (simp; done) | (simp [*]; done)), H', ⟨by have := HK1.out; omega⟩, by repeat (first | exact Drawn0.refl _ | apply Drawn0.step)⟩
        · rw [if_neg c4] at H
          exact absurd H (by simp)
      · rw [if_neg c3] at H
        have c3b0 : decide (x5_1 < (l0.length : Int)) = false := decide_eq_false c3
        clear c3
        obtain rfl := Option.some.inj H
        simp only [Option.some.injEq, Prod.mk.injEq] at H
        obtain ⟨rfl⟩ := H
        go_wp2
        go_ret
        exact ⟨by first | rfl | (simp; done) | (simp [*]; done), by repeat (first | exact Drawn0.refl _ | apply Drawn0.step)⟩
def spec_l5Same.l0 : Nat → List Int → Int → Int → Bool → Int → List Bool → List (List Int) → Option (Bool)
  | 0, _, _, _, _, _, _, _ => none
  | k + 1, x1, x2, x3, x9, x10, x122000, x122001 => if x10 < 3 then (if x9 = true then (if 0 ≤ x2 then (if x2 < (x122001.length : Int) then (if 0 ≤ x10 then (if x10 < ((rd_L1 x122001 x2).length : Int) then (if 0 ≤ (rd (rd_L1 x122001 x2) x10) then (if (rd (rd_L1 x122001 x2) x10) < (x1.length : Int) then (if 0 ≤ x3 then (if x3 < (x122001.length : Int) then (if x10 < ((rd_L1 x122001 x3).length : Int) then (if 0 ≤ (rd (rd_L1 x122001 x3) x10) then (if (rd (rd_L1 x122001 x3) x10) < (x1.length : Int) then (spec_l5Same.l0 k x1 x2 x3 ((rd x1 (rd (rd_L1 x122001 x2) x10)) == (rd x1 (rd (rd_L1 x122001 x3) x10))) (wrap64 (x10 + 1)) x122000 x122001) else (none)) else (none)) else (none)) else (none)) else (none)) else (none)) else (none)) else (none)) else (none)) else (none)) else (none)) else (spec_l5Same.l0 k x1 x2 x3 false (wrap64 (x10 + 1)) x122000 x122001)) else (some x9)
def spec_l5Same.f (k : Nat) (l0_0 : List Bool) (l0_1 : List (List Int)) (l1 : List Int) (a2 : Int) (a3 : Int) : Option (Bool) := if 0 ≤ a2 then (if a2 < (l1.length : Int) then (if 0 ≤ a3 then (if a3 < (l1.length : Int) then (spec_l5Same.l0 k l1 a2 a3 ((rd l1 a2) == (rd l1 a3)) 0 l0_0 l0_1) else (none)) else (none)) else (none)) else (none)
theorem spec_l5Same.mono_l : ∀ k, (∀ y0 y1 y2 y3 y4 y5 y6, LeO (spec_l5Same.l0 k y0 y1 y2 y3 y4 y5 y6) (spec_l5Same.l0 (k + 1) y0 y1 y2 y3 y4 y5 y6))
 | 0 => fun _ _ _ _ _ _ _ r h => by simp [spec_l5Same.l0] at h
 | k + 1 => by
  have ih0 := spec_l5Same.mono_l k
  ·intro y0 y1 y2 y3 y4 y5 y6
   unfold spec_l5Same.l0
   repeat' first
   | (with_reducible exact ih0 _ _ _ _ _ _ _)
   | (with_reducible exact LeO.refl _)
   | (with_reducible exact LeO.none _)
   | (with_reducible refine LeO.ite ?_ ?_)
   | (with_reducible refine LeO.bind ?_ (fun _ => ?_))
   | exact ih0 _ _ _ _ _ _ _
   | exact LeO.none _
   | refine LeO.ite ?_ ?_
   | refine LeO.bind ?_ (fun _ => ?_)
theorem spec_l5Same.mono : ∀ a0 a1 a2 a3 a4 k, LeO (spec_l5Same.f k a0 a1 a2 a3 a4) (spec_l5Same.f (k + 1) a0 a1 a2 a3 a4) := by
 intro a0 a1 a2 a3 a4 k
 have ih0 := spec_l5Same.mono_l k
 unfold spec_l5Same.f
 repeat' first
   | (with_reducible exact ih0 _ _ _ _ _ _ _)
   | (with_reducible exact LeO.refl _)
   | (with_reducible exact LeO.none _)
   | (with_reducible refine LeO.ite ?_ ?_)
   | (with_reducible refine LeO.bind ?_ (fun _ => ?_))
   | exact ih0 _ _ _ _ _ _ _
   | exact LeO.none _
   | refine LeO.ite ?_ ?_
   | refine LeO.bind ?_ (fun _ => ?_)
set_option maxHeartbeats 8000000 in
set_option maxRecDepth 100000 in
theorem spec_l5Same.calls (k : Nat) (A0_0 : Option Addr) (c0_0 : Nat) (l0_0 : List Bool) (A0_1 : Option Addr) (c0_1 : Nat) (l0_1 : List (List Int)) (A1 : Option Addr) (c1 : Nat) (l1 : List Int) (a2 : Int) (a3 : Int) (r : Bool) (w : World) (hr0_0 : Kd.C Kd.bool w A0_0 l0_0.length l0_0) (hc0_0 : l0_0.length ≤ c0_0) (hr0_1 : Kd.C (Kd.slice 3 (Kd.int .i64)) w A0_1 l0_1.length l0_1) (hc0_1 : l0_1.length ≤ c0_1) (hr1 : Kd.C (Kd.int .i64) w A1 l1.length l1) (hc1 : l1.length ≤ c1) (h : spec_l5Same.f k l0_0 l0_1 l1 a2 a3 = some r) :
  Calls Try.prog 133 #[.agg #[.slice A0_0 l0_0.length c0_0, .slice A0_1 l0_1.length c0_1], .slice A1 l1.length c1, .int .i64 a2, .int .i64 a3] w fun e w' => e = .returned (.bool r) ∧ Below w.heap.size w w' := by
 have hu27 := Try.underlying27
 have HR0_0 := Aside0.mk hr0_0
 have HC0_0 := Aside0.mk hc0_0
 clear hr0_0 hc0_0
 have HR0_1 := Aside0.mk hr0_1
 have HC0_1 := Aside0.mk hc0_1
 clear hr0_1 hc0_1
 have HR1 := Aside0.mk hr1
 have HC1 := Aside0.mk hc1
 clear hr1 hc1
 have HB := Aside0.mk (Below.refl w.heap.size w)
 have H : (if 0 ≤ a2 then (if a2 < (l1.length : Int) then (if 0 ≤ a3 then (if a3 < (l1.length : Int) then (spec_l5Same.l0 k l1 a2 a3 ((rd l1 a2) == (rd l1 a3)) 0 l0_0 l0_1) else (none)) else (none)) else (none)) else (none)) = some r := h
 clear h
 by_cases c5 : 0 ≤ a2
 ·rw [if_pos c5] at H
  have c5b0 : decide (0 ≤ a2) = true := decide_eq_true c5
  clear c5
  by_cases c6 : a2 < (l1.length : Int)
  ·rw [if_pos c6] at H
   have c6b0 : decide (a2 < (l1.length : Int)) = true := decide_eq_true c6
   clear c6
   by_cases c7 : 0 ≤ a3
   ·rw [if_pos c7] at H
    have c7b0 : decide (0 ≤ a3) = true := decide_eq_true c7
    clear c7
    by_cases c8 : a3 < (l1.length : Int)
    ·rw [if_pos c8] at H
     have c8b0 : decide (a3 < (l1.length : Int)) = true := decide_eq_true c8
     clear c8
     have H' := Aside0.mk H
     clear H
     go_enter Try.func133, Try.ntmps133
     go_wp2_with (first | ((with_reducible refine gate_dst (N := 4) rfl ?_); refine box_event ?hg (N := 4) ?hd (cs := #[.slice A0_0 l0_0.length c0_0, .slice A0_1 l0_1.length c0_1]) (t := 27) ?hr ?_; (case hd => rfl); (case hg => rfl); (case hr => first | (go_simp; done) | (go_simp; rfl)); intro gb121 hg w9 hbox hb; have n0_ := Aside0.mk (below_step (by repeat (first | (with_reducible first | exact HB.out | apply below_alloc | apply pw_below_drewN | apply below_drew1) | exact HB.out)) hb); have n1_ := Aside0.mk (hbox); have n2_ := Aside0.mk ((by rw [hg]; exact (below_size (by repeat (first | (with_reducible first | exact HB.out | apply below_alloc | apply pw_below_drewN | apply below_drew1) | exact HB.out))) : w.heap.size ≤ gb121)); have n3_ := Aside0.mk ((by rw [hg]; exact (below_size (by repeat (first | (with_reducible first | exact HB.out | apply below_alloc | apply pw_below_drewN | apply below_drew1) | exact HB.out))) : w.heap.size ≤ gb121)); clear HB; have HB := n0_; have BK121 := n1_; have GW121 := n2_; have GE121 := n3_; clear n0_ n1_ n2_ n3_; clear hb hbox hg; have p122 : 0 ≤ (a2 : Int) := of_decide_eq_true (by first | (with_reducible assumption) | assumption); have q122 : a2 < (l1.length : Int) := of_decide_eq_true (by first | (with_reducible assumption) | assumption); obtain ⟨ad122, e122, hx122_0⟩ := Kd.at_int HR1.out a2 p122 q122; cases e122; replace hx122_0 := (HB.out.cell (World.block_lt_of_cell? w _ hx122_0)).trans hx122_0; replace p122 := eq_true p122; replace q122 := eq_true q122; have p123 : 0 ≤ (a3 : Int) := of_decide_eq_true (by first | (with_reducible assumption) | assumption); have q123 : a3 < (l1.length : Int) := of_decide_eq_true (by first | (with_reducible assumption) | assumption); obtain ⟨ad123, e123, hx123_0⟩ := Kd.at_int HR1.out a3 p123 q123; obtain rfl : ad122 = ad123 := (by injection e123); replace hx123_0 := (HB.out.cell (World.block_lt_of_cell? w _ hx123_0)).trans hx123_0; replace p123 := eq_true p123; replace q123 := eq_true q123))
     repeat (go_quiet (first | ((with_reducible refine gate_dst (N := 4) rfl ?_); refine box_event ?hg (N := 4) ?hd (cs := #[.slice A0_0 l0_0.length c0_0, .slice A0_1 l0_1.length c0_1]) (t := 27) ?hr ?_; (case hd => rfl); (case hg => rfl); (case hr => first | (go_simp; done) | (go_simp; rfl)); intro gb121 hg w9 hbox hb; have n0_ := Aside0.mk (below_step (by repeat (first | (with_reducible first | exact HB.out | apply below_alloc | apply pw_below_drewN | apply below_drew1) | exact HB.out)) hb); have n1_ := Aside0.mk (hbox); have n2_ := Aside0.mk ((by rw [hg]; exact (below_size (by repeat (first | (with_reducible first | exact HB.out | apply below_alloc | apply pw_below_drewN | apply below_drew1) | exact HB.out))) : w.heap.size ≤ gb121)); have n3_ := Aside0.mk ((by rw [hg]; exact (below_size (by repeat (first | (with_reducible first | exact HB.out | apply below_alloc | apply pw_below_drewN | apply below_drew1) | exact HB.out))) : w.heap.size ≤ gb121)); clear HB; have HB := n0_; have BK121 := n1_; have GW121 := n2_; have GE121 := n3_; clear n0_ n1_ n2_ n3_; clear hb hbox hg; have p122 : 0 ≤ (a2 : Int) := of_decide_eq_true (by first | (with_reducible assumption) | assumption); have q122 : a2 < (l1.length : Int) := of_decide_eq_true (by first | (with_reducible assumption) | assumption); obtain ⟨ad122, e122, hx122_0⟩ := Kd.at_int HR1.out a2 p122 q122; cases e122; replace hx122_0 := (HB.out.cell (World.block_lt_of_cell? w _ hx122_0)).trans hx122_0; replace p122 := eq_true p122; replace q122 := eq_true q122; have p123 : 0 ≤ (a3 : Int) := of_decide_eq_true (by first | (with_reducible assumption) | assumption); have q123 : a3 < (l1.length : Int) := of_decide_eq_true (by first | (with_reducible assumption) | assumption); obtain ⟨ad123, e123, hx123_0⟩ := Kd.at_int HR1.out a3 p123 q123; obtain rfl : ad122 = ad123 := (by injection e123); replace hx123_0 := (HB.out.cell (World.block_lt_of_cell? w _ hx123_0)).trans hx123_0; replace p123 := eq_true p123; replace q123 := eq_true q123)); try go_wp2_with (first | ((with_reducible refine gate_dst (N := 4) rfl ?_); refine box_event ?hg (N := 4) ?hd (cs := #[.slice A0_0 l0_0.length c0_0, .slice A0_1 l0_1.length c0_1]) (t := 27) ?hr ?_; (case hd => rfl); (case hg => rfl); (case hr => first | (go_simp; done) | (go_simp; rfl)); intro gb121 hg w9 hbox hb; have n0_ := Aside0.mk (below_step (by repeat (first | (with_reducible first | exact HB.out | apply below_alloc | apply pw_below_drewN | apply below_drew1) | exact HB.out)) hb); have n1_ := Aside0.mk (hbox); have n2_ := Aside0.mk ((by rw [hg]; exact (below_size (by repeat (first | (with_reducible first | exact HB.out | apply below_alloc | apply pw_below_drewN | apply below_drew1) | exact HB.out))) : w.heap.size ≤ gb121)); have n3_ := Aside0.mk ((by rw [hg]; exact (below_size (by repeat (first | (with_reducible first | exact HB.out | apply below_alloc | apply pw_below_drewN | apply below_drew1) | exact HB.out))) : w.heap.size ≤ gb121)); clear HB; have HB := n0_; have BK121 := n1_; have GW121 := n2_; have GE121 := n3_; clear n0_ n1_ n2_ n3_; clear hb hbox hg; have p122 : 0 ≤ (a2 : Int) := of_decide_eq_true (by first | (with_reducible assumption) | assumption); have q122 : a2 < (l1.length : Int) := of_decide_eq_true (by first | (with_reducible assumption) | assumption); obtain ⟨ad122, e122, hx122_0⟩ := Kd.at_int HR1.out a2 p122 q122; cases e122; replace hx122_0 := (HB.out.cell (World.block_lt_of_cell? w _ hx122_0)).trans hx122_0; replace p122 := eq_true p122; replace q122 := eq_true q122; have p123 : 0 ≤ (a3 : Int) := of_decide_eq_true (by first | (with_reducible assumption) | assumption); have q123 : a3 < (l1.length : Int) := of_decide_eq_true (by first | (with_reducible assumption) | assumption); obtain ⟨ad123, e123, hx123_0⟩ := Kd.at_int HR1.out a3 p123 q123; obtain rfl : ad122 = ad123 := (by injection e123); replace hx123_0 := (HB.out.cell (World.block_lt_of_cell? w _ hx123_0)).trans hx123_0; replace p123 := eq_true p123; replace q123 := eq_true q123)))
     go_loopg [9, 10] k (fun kq v9 v10 w' => ∃ (x9_1 : Bool) (x10_1 : Int), v9 = .bool x9_1 ∧ v10 = .int .i64 x10_1 ∧ Aside0 (spec_l5Same.l0 kq l1 a2 a3 x9_1 x10_1 l0_0 l0_1 = some r) ∧ Aside0 (kq ≤ k) ∧ Aside0 (w'.heap[gb121]? = some (.cells #[(.slice A0_0 l0_0.length c0_0), (.slice A0_1 l0_1.length c0_1)] 27 (0, 0))) ∧ Aside0 (Below w.heap.size w w'))
     case atStart => exact ⟨(((rd l1 a2) == (rd l1 a3))), (0), (by first | rfl | (simp; done) | (simp [*]; done)), (by first | rfl | (simp; done) | (simp [*]; done)), H', ⟨Nat.le_refl _⟩, ⟨by (with_reducible repeat (first | refine blk_drewN ?_ _ | refine blk_drew ?_ | refine blk_alloc ?_ _)); exact BK121.out⟩, ⟨by repeat (first | (with_reducible first | exact HB.out | apply below_alloc | apply pw_below_drewN | apply below_drew1 | refine below_set ?_ GE121.out) | exact HB.out)⟩⟩
     case round =>
      clear H'
      try clear c1
      try clear p1
      try clear q1
      try clear hx1
      try clear p2
      try clear c5
      try clear c5b0
      try clear c6
      try clear c6b0
      try clear c7
      try clear c7b0
      try clear c8
      try clear c8b0
      try clear hx122_0
      try clear hx123_0
      try clear p122
      try clear p123
      try clear q122
      try clear q123
      obtain ⟨x9_1, x10_1, rfl, rfl, HA, HK1, BK121, HB⟩ := hrel
      cases gk with
      | zero => exact absurd HA.out (by simp [spec_l5Same.l0])
      | succ k1 =>
       have H := HA.out
       clear HA
       simp only [spec_l5Same.l0] at H
       by_cases c10 : x10_1 < 3
       ·rw [if_pos c10] at H
        have c10b0 : decide (x10_1 < 3) = true := decide_eq_true c10
        clear c10
        by_cases c11 : x9_1 = true
        ·subst c11
         have H1 : (if 0 ≤ a2 then (if a2 < (l0_1.length : Int) then (if 0 ≤ x10_1 then (if x10_1 < ((rd_L1 l0_1 a2).length : Int) then (if 0 ≤ (rd (rd_L1 l0_1 a2) x10_1) then (if (rd (rd_L1 l0_1 a2) x10_1) < (l1.length : Int) then (if 0 ≤ a3 then (if a3 < (l0_1.length : Int) then (if x10_1 < ((rd_L1 l0_1 a3).length : Int) then (if 0 ≤ (rd (rd_L1 l0_1 a3) x10_1) then (if (rd (rd_L1 l0_1 a3) x10_1) < (l1.length : Int) then (spec_l5Same.l0 k1 l1 a2 a3 ((rd l1 (rd (rd_L1 l0_1 a2) x10_1)) == (rd l1 (rd (rd_L1 l0_1 a3) x10_1))) (wrap64 (x10_1 + 1)) l0_0 l0_1) else (none)) else (none)) else (none)) else (none)) else (none)) else (none)) else (none)) else (none)) else (none)) else (none)) else (none)) = some r := by rw [if_pos rfl] at H; exact H
         clear H
         have H := H1
         clear H1
         by_cases c12 : 0 ≤ a2
         ·rw [if_pos c12] at H
          have c12b0 : decide (0 ≤ a2) = true := decide_eq_true c12
          clear c12
          by_cases c13 : a2 < (l0_1.length : Int)
          ·rw [if_pos c13] at H
           have c13b0 : decide (a2 < (l0_1.length : Int)) = true := decide_eq_true c13
           clear c13
           by_cases c14 : 0 ≤ x10_1
           ·rw [if_pos c14] at H
            have c14b0 : decide (0 ≤ x10_1) = true := decide_eq_true c14
            clear c14
            by_cases c15 : x10_1 < ((rd_L1 l0_1 a2).length : Int)
            ·rw [if_pos c15] at H
             have c15b0 : decide (x10_1 < ((rd_L1 l0_1 a2).length : Int)) = true := decide_eq_true c15
             clear c15
             by_cases c16 : 0 ≤ (rd (rd_L1 l0_1 a2) x10_1)
             ·rw [if_pos c16] at H
              have c16b0 : decide (0 ≤ (rd (rd_L1 l0_1 a2) x10_1)) = true := decide_eq_true c16
              clear c16
              by_cases c17 : (rd (rd_L1 l0_1 a2) x10_1) < (l1.length : Int)
              ·rw [if_pos c17] at H
               have c17b0 : decide ((rd (rd_L1 l0_1 a2) x10_1) < (l1.length : Int)) = true := decide_eq_true c17
               clear c17
               by_cases c18 : 0 ≤ a3
               ·rw [if_pos c18] at H
                have c18b0 : decide (0 ≤ a3) = true := decide_eq_true c18
                clear c18
                by_cases c19 : a3 < (l0_1.length : Int)
                ·rw [if_pos c19] at H
                 have c19b0 : decide (a3 < (l0_1.length : Int)) = true := decide_eq_true c19
                 clear c19
                 by_cases c20 : x10_1 < ((rd_L1 l0_1 a3).length : Int)
                 ·rw [if_pos c20] at H
                  have c20b0 : decide (x10_1 < ((rd_L1 l0_1 a3).length : Int)) = true := decide_eq_true c20
                  clear c20
                  by_cases c21 : 0 ≤ (rd (rd_L1 l0_1 a3) x10_1)
                  ·rw [if_pos c21] at H
                   have c21b0 : decide (0 ≤ (rd (rd_L1 l0_1 a3) x10_1)) = true := decide_eq_true c21
                   clear c21
                   by_cases c22 : (rd (rd_L1 l0_1 a3) x10_1) < (l1.length : Int)
                   ·rw [if_pos c22] at H
                    have c22b0 : decide ((rd (rd_L1 l0_1 a3) x10_1) < (l1.length : Int)) = true := decide_eq_true c22
                    clear c22
                    have H' := Aside0.mk H
                    clear H
                    have hcz23_0 : wr.cell? ⟨gb121, 0, none⟩ = some (.slice A0_0 l0_0.length c0_0) := (blk_cell BK121.out 0).trans rfl
                    have hcz23_1 : wr.cell? ⟨gb121, 1, none⟩ = some (.slice A0_1 l0_1.length c0_1) := (blk_cell BK121.out 1).trans rfl
                    have hfz23_0 := blk_frozen BK121.out 0
                    have hfz23_1 := blk_frozen BK121.out 1
                    have p124 : 0 ≤ (a2 : Int) := of_decide_eq_true (by first | (with_reducible assumption) | assumption)
                    have q124 : a2 < (l0_1.length : Int) := of_decide_eq_true (by first | (with_reducible assumption) | assumption)
                    obtain ⟨ad124, A124_0, c124_0, e124, hx124_0, hl124_0, hi124_0⟩ := at_L1 HR0_1.out a2 p124 q124
                    cases e124
                    replace hx124_0 := (HB.out.cell (World.block_lt_of_cell? w _ hx124_0)).trans hx124_0
                    have HR124_0 := Aside0.mk hi124_0
                    have HC124_0 := Aside0.mk hl124_0
                    clear hi124_0 hl124_0
                    replace p124 := eq_true p124
                    replace q124 := eq_true q124
                    have p125 : 0 ≤ (x10_1 : Int) := of_decide_eq_true (by first | (with_reducible assumption) | assumption)
                    have q125 : x10_1 < ((rd_L1 l0_1 a2).length : Int) := of_decide_eq_true (by first | (with_reducible assumption) | assumption)
                    obtain ⟨ad125, e125, hx125_0⟩ := Kd.at_int HR124_0.out x10_1 p125 q125
                    cases e125
                    replace hx125_0 := (HB.out.cell (World.block_lt_of_cell? w _ hx125_0)).trans hx125_0
                    replace p125 := eq_true p125
                    replace q125 := eq_true q125
                    have p126 : 0 ≤ ((rd (rd_L1 l0_1 a2) x10_1) : Int) := of_decide_eq_true (by first | (with_reducible assumption) | assumption)
                    have q126 : (rd (rd_L1 l0_1 a2) x10_1) < (l1.length : Int) := of_decide_eq_true (by first | (with_reducible assumption) | assumption)
                    obtain ⟨ad126, e126, hx126_0⟩ := Kd.at_int HR1.out (rd (rd_L1 l0_1 a2) x10_1) p126 q126
                    obtain rfl : ad122 = ad126 := (by injection e126)
                    replace hx126_0 := (HB.out.cell (World.block_lt_of_cell? w _ hx126_0)).trans hx126_0
                    replace p126 := eq_true p126
                    replace q126 := eq_true q126
                    have p127 : 0 ≤ (a3 : Int) := of_decide_eq_true (by first | (with_reducible assumption) | assumption)
                    have q127 : a3 < (l0_1.length : Int) := of_decide_eq_true (by first | (with_reducible assumption) | assumption)
                    obtain ⟨ad127, A127_0, c127_0, e127, hx127_0, hl127_0, hi127_0⟩ := at_L1 HR0_1.out a3 p127 q127
                    obtain rfl : ad124 = ad127 := (by injection e127)
                    replace hx127_0 := (HB.out.cell (World.block_lt_of_cell? w _ hx127_0)).trans hx127_0
                    have HR127_0 := Aside0.mk hi127_0
                    have HC127_0 := Aside0.mk hl127_0
                    clear hi127_0 hl127_0
                    replace p127 := eq_true p127
                    replace q127 := eq_true q127
                    have p128 : 0 ≤ (x10_1 : Int) := of_decide_eq_true (by first | (with_reducible assumption) | assumption)
                    have q128 : x10_1 < ((rd_L1 l0_1 a3).length : Int) := of_decide_eq_true (by first | (with_reducible assumption) | assumption)
                    obtain ⟨ad128, e128, hx128_0⟩ := Kd.at_int HR127_0.out x10_1 p128 q128
                    cases e128
                    replace hx128_0 := (HB.out.cell (World.block_lt_of_cell? w _ hx128_0)).trans hx128_0
                    replace p128 := eq_true p128
                    replace q128 := eq_true q128
                    have p129 : 0 ≤ ((rd (rd_L1 l0_1 a3) x10_1) : Int) := of_decide_eq_true (by first | (with_reducible assumption) | assumption)
                    have q129 : (rd (rd_L1 l0_1 a3) x10_1) < (l1.length : Int) := of_decide_eq_true (by first | (with_reducible assumption) | assumption)
                    obtain ⟨ad129, e129, hx129_0⟩ := Kd.at_int HR1.out (rd (rd_L1 l0_1 a3) x10_1) p129 q129
                    obtain rfl : ad122 = ad129 := (by injection e129)
                    replace hx129_0 := (HB.out.cell (World.block_lt_of_cell? w _ hx129_0)).trans hx129_0
                    replace p129 := eq_true p129
                    replace q129 := eq_true q129
                    go_wp2
                    repeat (go_quiet (fail); try go_wp2)
                    go_roundg k1
                    case measure => have := HK1.out; omega
                    case rel => exact ⟨(((rd l1 (rd (rd_L1 l0_1 a2) x10_1)) == (rd l1 (rd (rd_L1 l0_1 a3) x10_1)))), (wrap64 (x10_1 + 1)), (by first | rfl | (simp; done) | (simp [*]; done)), (by first | rfl | (simp; done) | (simp [*]; done)), H', ⟨by have := HK1.out; omega⟩, ⟨by (with_reducible repeat (first | refine blk_drewN ?_ _ | refine blk_drew ?_ | refine blk_alloc ?_ _)); exact BK121.out⟩, ⟨by repeat (first | (with_reducible first | exact HB.out | apply below_alloc | apply pw_below_drewN | apply below_drew1 | refine below_set ?_ GE121.out) | exact HB.out)⟩⟩
                   ·rw [if_neg c22] at H
                    exact absurd H (by simp)
                  ·rw [if_neg c21] at H
                   exact absurd H (by simp)
                 ·rw [if_neg c20] at H
                  exact absurd H (by simp)
                ·rw [if_neg c19] at H
                 exact absurd H (by simp)
               ·rw [if_neg c18] at H
                exact absurd H (by simp)
              ·rw [if_neg c17] at H
               exact absurd H (by simp)
             ·rw [if_neg c16] at H
              exact absurd H (by simp)
            ·rw [if_neg c15] at H
             exact absurd H (by simp)
           ·rw [if_neg c14] at H
            exact absurd H (by simp)
          ·rw [if_neg c13] at H
           exact absurd H (by simp)
         ·rw [if_neg c12] at H
          exact absurd H (by simp)
        ·replace c11 := Bool.eq_false_iff.mpr c11
         subst c11
         have H1 : (spec_l5Same.l0 k1 l1 a2 a3 false (wrap64 (x10_1 + 1)) l0_0 l0_1) = some r := by rw [if_neg (show ¬ (false = true) by decide)] at H; exact H
         clear H
         have H := H1
         clear H1
         have H' := Aside0.mk H
         clear H
         go_wp2
         repeat (go_quiet (fail); try go_wp2)
         go_roundg k1
         case measure => have := HK1.out; omega
         case rel => exact ⟨(false), (wrap64 (x10_1 + 1)), (by first | rfl | (simp; done) | (simp [*]; done)), (by first | rfl | (simp; done) | (simp [*]; done)), H', ⟨by have := HK1.out; omega⟩, ⟨by (with_reducible repeat (first | refine blk_drewN ?_ _ | refine blk_drew ?_ | refine blk_alloc ?_ _)); exact BK121.out⟩, ⟨by repeat (first | (with_reducible first | exact HB.out | apply below_alloc | apply pw_below_drewN | apply below_drew1 | refine below_set ?_ GE121.out) | exact HB.out)⟩⟩
       ·rw [if_neg c10] at H
        have c10b0 : decide (x10_1 < 3) = false := decide_eq_false c10
        clear c10
        obtain rfl := Option.some.inj H
        simp only [Option.some.injEq, Prod.mk.injEq] at H
        obtain ⟨rfl⟩ := H
        go_wp2
        repeat (go_quiet (fail); try go_wp2)
        go_ret
        exact ⟨by first | rfl | (simp [errW_none, errW_some] <;> rfl) | (simp [*, errW_none, errW_some] <;> rfl), by repeat (first | (with_reducible first | exact HB.out | apply below_alloc | apply pw_below_drewN | apply below_drew1 | refine below_set ?_ GE121.out) | exact HB.out)⟩
    ·rw [if_neg c8] at H
     exact absurd H (by simp)
   ·rw [if_neg c7] at H
    exact absurd H (by simp)
  ·rw [if_neg c6] at H
   exact absurd H (by simp)
 ·rw [if_neg c5] at H
  exact absurd H (by simp)
end Go.Proofs.Ytogamkblkoobkaa.P
end
section
namespace Go.Proofs.Ytogamkblkoobkaa.P
open Go.RowKit Go.Proofs.YtogamkblkoobkaaW.PrintWords Go.Proofs.YtogamkblkoobkaaW.PrintLast Go.Proofs.YtogamkblkoobkaaW.PrintMore
attribute [local go_sem] max2_int min2_int max_two min_two max_three min_three max_four min_four
set_option linter.unusedVariables false
set_option linter.unusedSimpArgs false
mutual
def spec_l5Classes.l0 : Nat → Int → List Int → Int → List Bool → List (List Int) → Option (List Int)
  | 0, _, _, _, _, _ => none
  | k + 1, x3, x4, x5, x131000, x131001 => if x5 < x3 then (if 0 ≤ x5 then (if x5 < (x131000.length : Int) then (if rdOf false x131000 x5 = true then (if x5 < (x4.length : Int) then (spec_l5Classes.l0 k x3 (x4.set (x5 : Int).toNat 1) (wrap64 (x5 + 1)) x131000 x131001) else (none)) else (spec_l5Classes.l0 k x3 x4 (wrap64 (x5 + 1)) x131000 x131001)) else (none)) else (none)) else (spec_l5Classes.l1 k x3 x4 0 x131000 x131001)
def spec_l5Classes.l1 : Nat → Int → List Int → Int → List Bool → List (List Int) → Option (List Int)
  | 0, _, _, _, _, _ => none
  | k + 1, x3, x4, x6, x131000, x131001 => if x6 ≤ x3 then (if 0 ≤ x3 then (if (x3 : Int).toNat ≤ 35184372088832 then (spec_l5Classes.l2 k x3 x4 x6 (List.replicate (x3 : Int).toNat 0) 0 x131000 x131001) else (none)) else (none)) else (some x4)
def spec_l5Classes.l2 : Nat → Int → List Int → Int → List Int → Int → List Bool → List (List Int) → Option (List Int)
  | 0, _, _, _, _, _, _, _ => none
  | k + 1, x3, x4, x6, x7, x8, x131000, x131001 => if x8 < x3 then (if 0 ≤ x8 then (if x8 < (x7.length : Int) then (spec_l5Classes.l3 k x3 x4 x6 (x7.set (x8 : Int).toNat x8) x8 0 x131000 x131001) else (none)) else (none)) else (spec_l5Classes.l1 k x3 x7 (wrap64 (x6 + 1)) x131000 x131001)
def spec_l5Classes.l3 : Nat → Int → List Int → Int → List Int → Int → Int → List Bool → List (List Int) → Option (List Int)
  | 0, _, _, _, _, _, _, _, _ => none
  | k + 1, x3, x4, x6, x7, x8, x9, x131000, x131001 => if x9 < x8 then ((spec_l5Same.f k x131000 x131001 x4 x9 x8).bind fun t140 => (if t140 = true then (if 0 ≤ x8 then (if x8 < (x7.length : Int) then (spec_l5Classes.l2 k x3 x4 x6 (x7.set (x8 : Int).toNat x9) (wrap64 (x8 + 1)) x131000 x131001) else (none)) else (none)) else (spec_l5Classes.l3 k x3 x4 x6 x7 x8 (wrap64 (x9 + 1)) x131000 x131001))) else (spec_l5Classes.l2 k x3 x4 x6 x7 (wrap64 (x8 + 1)) x131000 x131001)
end
def spec_l5Classes.f (k : Nat) (l0_0 : List Bool) (l0_1 : List (List Int)) : Option (List Int) := if 0 ≤ (l0_0.length : Int) then (if ((l0_0.length : Int) : Int).toNat ≤ 35184372088832 then (spec_l5Classes.l0 k (l0_0.length : Int) (List.replicate ((l0_0.length : Int) : Int).toNat 0) 0 l0_0 l0_1) else (none)) else (none)
theorem spec_l5Classes.mono_l : ∀ k, (∀ y0 y1 y2 y3 y4, LeO (spec_l5Classes.l0 k y0 y1 y2 y3 y4) (spec_l5Classes.l0 (k + 1) y0 y1 y2 y3 y4)) ∧ (∀ y0 y1 y2 y3 y4, LeO (spec_l5Classes.l1 k y0 y1 y2 y3 y4) (spec_l5Classes.l1 (k + 1) y0 y1 y2 y3 y4)) ∧ (∀ y0 y1 y2 y3 y4 y5 y6, LeO (spec_l5Classes.l2 k y0 y1 y2 y3 y4 y5 y6) (spec_l5Classes.l2 (k + 1) y0 y1 y2 y3 y4 y5 y6)) ∧ (∀ y0 y1 y2 y3 y4 y5 y6 y7, LeO (spec_l5Classes.l3 k y0 y1 y2 y3 y4 y5 y6 y7) (spec_l5Classes.l3 (k + 1) y0 y1 y2 y3 y4 y5 y6 y7))
 | 0 => ⟨fun _ _ _ _ _ r h => by simp [spec_l5Classes.l0] at h, fun _ _ _ _ _ r h => by simp [spec_l5Classes.l1] at h, fun _ _ _ _ _ _ _ r h => by simp [spec_l5Classes.l2] at h, fun _ _ _ _ _ _ _ _ r h => by simp [spec_l5Classes.l3] at h⟩
 | k + 1 => by
  obtain ⟨ih0, ih1, ih2, ih3⟩ := spec_l5Classes.mono_l k
  refine ⟨?_, ?_, ?_, ?_⟩
  ·intro y0 y1 y2 y3 y4
   unfold spec_l5Classes.l0
   repeat' first
   | (with_reducible exact ih0 _ _ _ _ _)
   | (with_reducible exact ih1 _ _ _ _ _)
   | (with_reducible exact ih2 _ _ _ _ _ _ _)
   | (with_reducible exact ih3 _ _ _ _ _ _ _ _)
   | (with_reducible exact spec_l5Same.mono _ _ _ _ _ _)
   | (with_reducible exact LeO.refl _)
   | (with_reducible exact LeO.none _)
   | (with_reducible refine LeO.ite ?_ ?_)
   | (with_reducible refine LeO.bind ?_ (fun _ => ?_))
   | exact ih0 _ _ _ _ _
   | exact ih1 _ _ _ _ _
   | exact ih2 _ _ _ _ _ _ _
   | exact ih3 _ _ _ _ _ _ _ _
   | exact spec_l5Same.mono _ _ _ _ _ _
   | exact LeO.none _
   | refine LeO.ite ?_ ?_
   | refine LeO.bind ?_ (fun _ => ?_)
  ·intro y0 y1 y2 y3 y4
   unfold spec_l5Classes.l1
   repeat' first
   | (with_reducible exact ih0 _ _ _ _ _)
   | (with_reducible exact ih1 _ _ _ _ _)
   | (with_reducible exact ih2 _ _ _ _ _ _ _)
   | (with_reducible exact ih3 _ _ _ _ _ _ _ _)
   | (with_reducible exact spec_l5Same.mono _ _ _ _ _ _)
   | (with_reducible exact LeO.refl _)
   | (with_reducible exact LeO.none _)
   | (with_reducible refine LeO.ite ?_ ?_)
   | (with_reducible refine LeO.bind ?_ (fun _ => ?_))
   | exact ih0 _ _ _ _ _
   | exact ih1 _ _ _ _ _
   | exact ih2 _ _ _ _ _ _ _
   | exact ih3 _ _ _ _ _ _ _ _
   | exact spec_l5Same.mono _ _ _ _ _ _
   | exact LeO.none _
   | refine LeO.ite ?_ ?_
   | refine LeO.bind ?_ (fun _ => ?_)
  ·intro y0 y1 y2 y3 y4 y5 y6
   unfold spec_l5Classes.l2
   repeat' first
   | (with_reducible exact ih0 _ _ _ _ _)
   | (with_reducible exact ih1 _ _ _ _ _)
   | (with_reducible exact ih2 _ _ _ _ _ _ _)
   | (with_reducible exact ih3 _ _ _ _ _ _ _ _)
   | (with_reducible exact spec_l5Same.mono _ _ _ _ _ _)
   | (with_reducible exact LeO.refl _)
   | (with_reducible exact LeO.none _)
   | (with_reducible refine LeO.ite ?_ ?_)
   | (with_reducible refine LeO.bind ?_ (fun _ => ?_))
   | exact ih0 _ _ _ _ _
   | exact ih1 _ _ _ _ _
   | exact ih2 _ _ _ _ _ _ _
   | exact ih3 _ _ _ _ _ _ _ _
   | exact spec_l5Same.mono _ _ _ _ _ _
   | exact LeO.none _
   | refine LeO.ite ?_ ?_
   | refine LeO.bind ?_ (fun _ => ?_)
  ·intro y0 y1 y2 y3 y4 y5 y6 y7
   unfold spec_l5Classes.l3
   repeat' first
   | (with_reducible exact ih0 _ _ _ _ _)
   | (with_reducible exact ih1 _ _ _ _ _)
   | (with_reducible exact ih2 _ _ _ _ _ _ _)
   | (with_reducible exact ih3 _ _ _ _ _ _ _ _)
   | (with_reducible exact spec_l5Same.mono _ _ _ _ _ _)
   | (with_reducible exact LeO.refl _)
   | (with_reducible exact LeO.none _)
   | (with_reducible refine LeO.ite ?_ ?_)
   | (with_reducible refine LeO.bind ?_ (fun _ => ?_))
   | exact ih0 _ _ _ _ _
   | exact ih1 _ _ _ _ _
   | exact ih2 _ _ _ _ _ _ _
   | exact ih3 _ _ _ _ _ _ _ _
   | exact spec_l5Same.mono _ _ _ _ _ _
   | exact LeO.none _
   | refine LeO.ite ?_ ?_
   | refine LeO.bind ?_ (fun _ => ?_)
theorem spec_l5Classes.mono : ∀ a0 a1 k, LeO (spec_l5Classes.f k a0 a1) (spec_l5Classes.f (k + 1) a0 a1) := by
 intro a0 a1 k
 obtain ⟨ih0, ih1, ih2, ih3⟩ := spec_l5Classes.mono_l k
 unfold spec_l5Classes.f
 repeat' first
   | (with_reducible exact ih0 _ _ _ _ _)
   | (with_reducible exact ih1 _ _ _ _ _)
   | (with_reducible exact ih2 _ _ _ _ _ _ _)
   | (with_reducible exact ih3 _ _ _ _ _ _ _ _)
   | (with_reducible exact spec_l5Same.mono _ _ _ _ _ _)
   | (with_reducible exact LeO.refl _)
   | (with_reducible exact LeO.none _)
   | (with_reducible refine LeO.ite ?_ ?_)
   | (with_reducible refine LeO.bind ?_ (fun _ => ?_))
   | exact ih0 _ _ _ _ _
   | exact ih1 _ _ _ _ _
   | exact ih2 _ _ _ _ _ _ _
   | exact ih3 _ _ _ _ _ _ _ _
   | exact spec_l5Same.mono _ _ _ _ _ _
   | exact LeO.none _
   | refine LeO.ite ?_ ?_
   | refine LeO.bind ?_ (fun _ => ?_)
set_option maxHeartbeats 8000000 in
set_option maxRecDepth 100000 in
theorem spec_l5Classes.calls (k : Nat) (A0_0 : Option Addr) (c0_0 : Nat) (l0_0 : List Bool) (A0_1 : Option Addr) (c0_1 : Nat) (l0_1 : List (List Int)) (r : List Int) (w : World) (hr0_0 : Kd.C Kd.bool w A0_0 l0_0.length l0_0) (hc0_0 : l0_0.length ≤ c0_0) (hr0_1 : Kd.C (Kd.slice 3 (Kd.int .i64)) w A0_1 l0_1.length l0_1) (hc0_1 : l0_1.length ≤ c0_1) (h : spec_l5Classes.f k l0_0 l0_1 = some r) :
  Calls Try.prog 126 #[.agg #[.slice A0_0 l0_0.length c0_0, .slice A0_1 l0_1.length c0_1]] w fun e w' => ∃ v0_ : Value, e = .returned (v0_) ∧ Kd.R (Kd.int .i64) 3 w' w.heap.size (fun _ => True) v0_ r ∧ Below w.heap.size w w' := by
 have hu27 := Try.underlying27
 have HR0_0 := Aside0.mk hr0_0
 have HC0_0 := Aside0.mk hc0_0
 clear hr0_0 hc0_0
 have HR0_1 := Aside0.mk hr0_1
 have HC0_1 := Aside0.mk hc0_1
 clear hr0_1 hc0_1
 have HB := Aside0.mk (Below.refl w.heap.size w)
 have H : (if 0 ≤ (l0_0.length : Int) then (if ((l0_0.length : Int) : Int).toNat ≤ 35184372088832 then (spec_l5Classes.l0 k (l0_0.length : Int) (List.replicate ((l0_0.length : Int) : Int).toNat 0) 0 l0_0 l0_1) else (none)) else (none)) = some r := h
 clear h
 by_cases c2 : 0 ≤ (l0_0.length : Int)
 ·rw [if_pos c2] at H
  have c2b0 := eq_true c2
  have c2b1 : decide (0 ≤ (l0_0.length : Int)) = true := decide_eq_true c2
  clear c2
  by_cases c3 : ((l0_0.length : Int) : Int).toNat ≤ 35184372088832
  ·rw [if_pos c3] at H
   have c3b0 := eq_true c3
   have c3b1 : decide (((l0_0.length : Int) : Int).toNat ≤ 35184372088832) = true := decide_eq_true c3
   clear c3
   obtain ⟨y131, hy131⟩ : ∃ y_ : List Int, y_ = (List.replicate ((l0_0.length : Int) : Int).toNat 0) := ⟨_, rfl⟩
   replace H : (spec_l5Classes.l0 k (l0_0.length : Int) y131 0 l0_0 l0_1) = some r := by first | (rw [hy131]; with_reducible exact H) | (have H2_ := (Option.bind_some _ _).symm.trans H; rw [hy131]; with_reducible exact H2_) | (have H2_ := (Option.bind_some _ _).symm.trans H; with_reducible exact H2_) | with_reducible exact H | (rw [hy131]; exact H) | exact H
   have Ny131 := Aside0.mk hy131
   clear hy131
   have H' := Aside0.mk H
   clear H
   go_enter Try.func126, Try.ntmps126
   go_wp2_with (first | ((with_reducible refine gate_dst (N := 1) rfl ?_); refine box_event ?hg (N := 1) ?hd (cs := #[.slice A0_0 l0_0.length c0_0, .slice A0_1 l0_1.length c0_1]) (t := 27) ?hr ?_; (case hd => rfl); (case hg => rfl); (case hr => first | (go_simp; done) | (go_simp; rfl)); intro gb130 hg w4 hbox hb; have n0_ := Aside0.mk (below_step (by repeat (first | (with_reducible first | exact HB.out | apply below_alloc | apply pw_below_drewN | apply below_drew1) | exact HB.out)) hb); have n1_ := Aside0.mk (hbox); have n2_ := Aside0.mk ((by rw [hg]; exact (below_size (by repeat (first | (with_reducible first | exact HB.out | apply below_alloc | apply pw_below_drewN | apply below_drew1) | exact HB.out))) : w.heap.size ≤ gb130)); have n3_ := Aside0.mk ((by rw [hg]; exact (below_size (by repeat (first | (with_reducible first | exact HB.out | apply below_alloc | apply pw_below_drewN | apply below_drew1) | exact HB.out))) : w.heap.size ≤ gb130)); clear HB; have HB := n0_; have BK130 := n1_; have GW130 := n2_; have GE130 := n3_; clear n0_ n1_ n2_ n3_; clear hb hbox hg; have hcz5_0 : w4.cell? ⟨gb130, 0, none⟩ = some (.slice A0_0 l0_0.length c0_0) := (blk_cell BK130.out 0).trans rfl; have hcz5_1 : w4.cell? ⟨gb130, 1, none⟩ = some (.slice A0_1 l0_1.length c0_1) := (blk_cell BK130.out 1).trans rfl; have hfz5_0 := blk_frozen BK130.out 0; have hfz5_1 := blk_frozen BK130.out 1) | ((with_reducible refine gate_dst (N := 14) rfl ?_); refine Kd.R_make (Kd.int .i64) _ 3 rfl (N := 14) rfl 67 _ _ rfl (l0_0.length : Int) rfl rfl Try.underlying67 (.int .i64 0) 8 info3 rfl (by decide) (by omega) 0 (ok := fun _ => True) (okp := fun _ => True) rfl (fun _ hk => hk) trivial (of_decide_eq_true (by first | (with_reducible assumption) | assumption)) (Nat.le_trans (Nat.mul_le_mul_right _ (of_decide_eq_true (by first | (with_reducible assumption) | assumption) : (l0_0.length : Int).toNat ≤ 35184372088832)) (by omega)) (Below.refl _ _) (Nat.le_refl _) ?_; intro v132 w6 ho7 hb hg_ hnew_; clear hg_ hnew_; (first | rw [← Ny131.out] at ho7 | (simp only [Int.reduceToNat] at ho7; rw [← Ny131.out] at ho7)); have n0_ := Aside0.mk (Kd.R_lower ho7 (below_size (by repeat (first | (with_reducible first | exact HB.out | apply below_alloc | apply pw_below_drewN | apply below_drew1 | refine below_set ?_ GE130.out) | exact HB.out)))); have n1_ := Aside0.mk (blk_below (g := gb130) (o := .cells #[.slice A0_0 l0_0.length c0_0, .slice A0_1 l0_1.length c0_1] 27 (0, 0)) (by (with_reducible repeat (first | refine blk_drewN ?_ _ | refine blk_drew ?_ | refine blk_alloc ?_ _)); exact BK130.out) hb); have n2_ := Aside0.mk (below_step (by repeat (first | (with_reducible first | exact HB.out | apply below_alloc | apply pw_below_drewN | apply below_drew1 | refine below_set ?_ GE130.out) | exact HB.out)) hb); clear BK130; clear HB; have HO133 := n0_; have BK130 := n1_; have HB := n2_; clear n0_ n1_ n2_; clear hb ho7))
   go_loopg [5] k (fun kq v5 w' => ∃ (x4_1 : List Int) (x5_1 : Int), v5 = .int .i64 x5_1 ∧ Aside0 (spec_l5Classes.l0 kq (l0_0.length : Int) x4_1 x5_1 l0_0 l0_1 = some r) ∧ Aside0 (kq ≤ k) ∧ Aside0 (Kd.R (Kd.int .i64) 3 w' w.heap.size (fun _ => True) v132 x4_1) ∧ Aside0 (w'.heap[gb130]? = some (.cells #[(.slice A0_0 l0_0.length c0_0), (.slice A0_1 l0_1.length c0_1)] 27 (0, 0))) ∧ Aside0 (Below w.heap.size w w'))
   case atStart => exact ⟨(y131), (0), (by first | rfl | (simp; done) | (simp [*]; done)), H', ⟨Nat.le_refl _⟩, ⟨by (with_reducible repeat (first | apply Kd.R_alloc | apply Kd.R_drewN | apply Kd.R_drew)); exact HO133.out⟩, ⟨by (with_reducible repeat (first | refine blk_drewN ?_ _ | refine blk_drew ?_ | refine blk_alloc ?_ _)); exact BK130.out⟩, ⟨by repeat (first | (with_reducible first | exact HB.out | apply below_alloc | apply pw_below_drewN | apply below_drew1 | refine below_set ?_ GE130.out) | exact HB.out)⟩⟩
   case round =>
    clear H'
    try clear c1
    try clear c2
    try clear c2b0
    try clear c2b1
    try clear p2
    try clear c3
    try clear c3b0
    try clear c3b1
    try clear hcz5_0
    try clear hcz5_1
    try clear hfz5_0
    try clear hfz5_1
    obtain ⟨x4_1, x5_1, rfl, HA, HK1, HO_4, BK130, HB⟩ := hrel
    cases gk with
    | zero => exact absurd HA.out (by simp [spec_l5Classes.l0])
    | succ k1 =>
     have H := HA.out
     clear HA
     simp only [spec_l5Classes.l0] at H
     by_cases c8 : x5_1 < (l0_0.length : Int)
     ·rw [if_pos c8] at H
      have c8b0 : decide (x5_1 < (l0_0.length : Int)) = true := decide_eq_true c8
      clear c8
      by_cases c9 : 0 ≤ x5_1
      ·rw [if_pos c9] at H
       have c9b0 : decide (0 ≤ x5_1) = true := decide_eq_true c9
       clear c9
       by_cases c10 : x5_1 < (l0_0.length : Int)
       ·rw [if_pos c10] at H
        have c10b0 : decide (x5_1 < (l0_0.length : Int)) = true := decide_eq_true c10
        clear c10
        obtain ⟨bq11, hbq11⟩ : ∃ b_ : Bool, b_ = (rdOf false l0_0 x5_1) := ⟨_, rfl⟩
        replace H : (if bq11 = true then (if x5_1 < (x4_1.length : Int) then (spec_l5Classes.l0 k1 (l0_0.length : Int) (x4_1.set (x5_1 : Int).toNat 1) (wrap64 (x5_1 + 1)) l0_0 l0_1) else (none)) else (spec_l5Classes.l0 k1 (l0_0.length : Int) x4_1 (wrap64 (x5_1 + 1)) l0_0 l0_1)) = some r := by rw [← hbq11] at H; exact H
        have Nbq11 := Aside0.mk hbq11
        clear hbq11
        by_cases c12 : bq11 = true
        ·subst c12
         have H1 : (if x5_1 < (x4_1.length : Int) then (spec_l5Classes.l0 k1 (l0_0.length : Int) (x4_1.set (x5_1 : Int).toNat 1) (wrap64 (x5_1 + 1)) l0_0 l0_1) else (none)) = some r := by rw [if_pos rfl] at H; exact H
         clear H
         have H := H1
         clear H1
         by_cases c13 : x5_1 < (x4_1.length : Int)
         ·rw [if_pos c13] at H
          have c13b0 : decide (x5_1 < (x4_1.length : Int)) = true := decide_eq_true c13
          clear c13
          obtain ⟨y135, hy135⟩ : ∃ y_ : List Int, y_ = (x4_1.set (x5_1 : Int).toNat 1) := ⟨_, rfl⟩
          replace H : (spec_l5Classes.l0 k1 (l0_0.length : Int) y135 (wrap64 (x5_1 + 1)) l0_0 l0_1) = some r := by first | (rw [hy135]; with_reducible exact H) | (have H2_ := (Option.bind_some _ _).symm.trans H; rw [hy135]; with_reducible exact H2_) | (have H2_ := (Option.bind_some _ _).symm.trans H; with_reducible exact H2_) | with_reducible exact H | (rw [hy135]; exact H) | exact H
          have Ny135 := Aside0.mk hy135
          clear hy135
          have H' := Aside0.mk H
          clear H
          have hcz15_0 : wr.cell? ⟨gb130, 0, none⟩ = some (.slice A0_0 l0_0.length c0_0) := (blk_cell BK130.out 0).trans rfl
          have hcz15_1 : wr.cell? ⟨gb130, 1, none⟩ = some (.slice A0_1 l0_1.length c0_1) := (blk_cell BK130.out 1).trans rfl
          have hfz15_0 := blk_frozen BK130.out 0
          have hfz15_1 := blk_frozen BK130.out 1
          have p134 : 0 ≤ (x5_1 : Int) := of_decide_eq_true (by first | (with_reducible assumption) | assumption)
          have q134 : x5_1 < (l0_0.length : Int) := of_decide_eq_true (by first | (with_reducible assumption) | assumption)
          obtain ⟨ad134, e134, hx134_0⟩ := Kd.at_bool HR0_0.out x5_1 p134 q134
          (try rw [← Nbq11.out] at hx134_0)
          cases e134
          replace hx134_0 := (HB.out.cell (World.block_lt_of_cell? w _ hx134_0)).trans hx134_0
          replace p134 := eq_true p134
          replace q134 := eq_true q134
          have p14 : 0 ≤ (x5_1 : Int) := of_decide_eq_true (by first | (with_reducible assumption) | assumption)
          have q14 : (x5_1 : Int) < ((x4_1.length : Int) : Int) := of_decide_eq_true (by first | (with_reducible assumption) | assumption)
          obtain ⟨go14, co14, eo14, gb14, gl14, cl14, HG14⟩ := Kd.R_form HO_4.out (by omega)
          (first | cases eo14 | (injection eo14 with ea_ en_ ec_; (first | subst ea_ | (injection ea_ with ea_; subst ea_)); subst ec_; clear en_))
          have GB14 := Aside0.mk gb14
          have GG14 := Aside0.mk HG14
          clear gb14 gl14 HG14
          obtain ⟨hx14_0, hf14_0⟩ := Kd.R_celln 0 HO_4.out (x5_1 : Int) p14 q14
          replace p14 := eq_true p14
          replace q14 := eq_true q14
          have HP16 := Kd.R_putg HO_4.out (x5_1 : Int) 1
          go_wp2_with (first | ((with_reducible refine gate_store (t := 3) (p := 27) rfl ?_); refine store_event (t := 3) (p := 27) (v := ?vo_w17) (w1 := (wr.setCell ⟨go14, (x5_1 : Int).toNat, none⟩ (.int .i64 1))) ?hg ?ho ?hn ?hr ?_; (case ho => rfl); (case hg => rfl); (case hn => rfl); (case hr => first | (go_simp; done) | (go_simp; rfl)); intro w17 hw; have hg : wr.grownBy w17 (some go14) := (by rw [hw]; exact HP16.2); have hp_ : Kd.R (Kd.int .i64) 3 w17 w.heap.size (fun _ => True) (.slice (some ⟨go14, 0, none⟩) x4_1.length co14) y135 := (by rw [hw, Ny135.out]; exact HP16.1); clear HP16; have n0_ := Aside0.mk (hp_); have n1_ := Aside0.mk (blk_grown (g := gb130) (o := .cells #[.slice (some ad134) l0_0.length c0_0, .slice A0_1 l0_1.length c0_1] 27 (0, 0)) (by (with_reducible repeat (first | refine blk_drewN ?_ _ | refine blk_drew ?_ | refine blk_alloc ?_ _)); exact BK130.out) hg (Kd.R_ne HO_4.out BK130.out (by decide))); have n2_ := Aside0.mk ((by rw [hw]; exact below_set (HB.out) GB14.out : Below w.heap.size w w17)); clear HO_4; clear BK130; clear HB; have HO_4 := n0_; have BK130 := n1_; have HB := n2_; clear n0_ n1_ n2_; clear hg hw hp_))
          go_roundg k1
          case measure => have := HK1.out; omega
          case rel => exact ⟨(y135), (wrap64 (x5_1 + 1)), (by first | rfl | (simp; done) | (simp [*]; done)), H', ⟨by have := HK1.out; omega⟩, ⟨by (with_reducible repeat (first | apply Kd.R_alloc | apply Kd.R_drewN | apply Kd.R_drew)); exact HO_4.out⟩, ⟨by (with_reducible repeat (first | refine blk_drewN ?_ _ | refine blk_drew ?_ | refine blk_alloc ?_ _)); exact BK130.out⟩, ⟨by repeat (first | (with_reducible first | exact HB.out | apply below_alloc | apply pw_below_drewN | apply below_drew1 | refine below_set ?_ GE130.out) | exact HB.out)⟩⟩
         ·rw [if_neg c13] at H
          exact absurd H (by simp)
        ·replace c12 := Bool.eq_false_iff.mpr c12
         subst c12
         have H1 : (spec_l5Classes.l0 k1 (l0_0.length : Int) x4_1 (wrap64 (x5_1 + 1)) l0_0 l0_1) = some r := by rw [if_neg (show ¬ (false = true) by decide)] at H; exact H
         clear H
         have H := H1
         clear H1
         have H' := Aside0.mk H
         clear H
         have hcz18_0 : wr.cell? ⟨gb130, 0, none⟩ = some (.slice A0_0 l0_0.length c0_0) := (blk_cell BK130.out 0).trans rfl
         have hcz18_1 : wr.cell? ⟨gb130, 1, none⟩ = some (.slice A0_1 l0_1.length c0_1) := (blk_cell BK130.out 1).trans rfl
         have hfz18_0 := blk_frozen BK130.out 0
         have hfz18_1 := blk_frozen BK130.out 1
         have p134 : 0 ≤ (x5_1 : Int) := of_decide_eq_true (by first | (with_reducible assumption) | assumption)
         have q134 : x5_1 < (l0_0.length : Int) := of_decide_eq_true (by first | (with_reducible assumption) | assumption)
         obtain ⟨ad134, e134, hx134_0⟩ := Kd.at_bool HR0_0.out x5_1 p134 q134
         (try rw [← Nbq11.out] at hx134_0)
         cases e134
         replace hx134_0 := (HB.out.cell (World.block_lt_of_cell? w _ hx134_0)).trans hx134_0
         replace p134 := eq_true p134
         replace q134 := eq_true q134
         go_wp2
         go_roundg k1
         case measure => have := HK1.out; omega
         case rel => exact ⟨(x4_1), (wrap64 (x5_1 + 1)), (by first | rfl | (simp; done) | (simp [*]; done)), H', ⟨by have := HK1.out; omega⟩, ⟨by (with_reducible repeat (first | apply Kd.R_alloc | apply Kd.R_drewN | apply Kd.R_drew)); exact HO_4.out⟩, ⟨by (with_reducible repeat (first | refine blk_drewN ?_ _ | refine blk_drew ?_ | refine blk_alloc ?_ _)); exact BK130.out⟩, ⟨by repeat (first | (with_reducible first | exact HB.out | apply below_alloc | apply pw_below_drewN | apply below_drew1 | refine below_set ?_ GE130.out) | exact HB.out)⟩⟩
       ·rw [if_neg c10] at H
        exact absurd H (by simp)
      ·rw [if_neg c9] at H
       exact absurd H (by simp)
     ·rw [if_neg c8] at H
      have c8b0 : decide (x5_1 < (l0_0.length : Int)) = false := decide_eq_false c8
      clear c8
      have H' := Aside0.mk H
      clear H
      go_wp2
      go_loopg [4, 6] k1 (fun kq v4 v6 w' => ∃ (x4_2 : List Int) (x6_2 : Int), v6 = .int .i64 x6_2 ∧ Aside0 (spec_l5Classes.l1 kq (l0_0.length : Int) x4_2 x6_2 l0_0 l0_1 = some r) ∧ Aside0 (kq ≤ k1) ∧ Aside0 (Kd.R (Kd.int .i64) 3 w' w.heap.size (fun _ => True) v4 x4_2) ∧ Aside0 (w'.heap[gb130]? = some (.cells #[(.slice A0_0 l0_0.length c0_0), (.slice A0_1 l0_1.length c0_1)] 27 (0, 0))) ∧ Aside0 (Below w.heap.size w w'))
      case atStart => exact ⟨(x4_1), (0), (by first | rfl | (simp; done) | (simp [*]; done)), H', ⟨Nat.le_refl _⟩, ⟨by (with_reducible repeat (first | apply Kd.R_alloc | apply Kd.R_drewN | apply Kd.R_drew)); exact HO_4.out⟩, ⟨by (with_reducible repeat (first | refine blk_drewN ?_ _ | refine blk_drew ?_ | refine blk_alloc ?_ _)); exact BK130.out⟩, ⟨by repeat (first | (with_reducible first | exact HB.out | apply below_alloc | apply pw_below_drewN | apply below_drew1 | refine below_set ?_ GE130.out) | exact HB.out)⟩⟩
      case round =>
       clear H'
       try clear c1
       try clear p1
       try clear q1
       try clear hx1
       try clear hf1
       try clear c2
       try clear c2b0
       try clear c2b1
       try clear p2
       try clear c3
       try clear c3b0
       try clear c3b1
       try clear p6
       try clear c8
       try clear c8b0
       try clear c9
       try clear c9b0
       try clear c10
       try clear c10b0
       try clear q11
       try clear c12
       try clear c13
       try clear c13b0
       try clear p13
       try clear q13
       try clear hx13
       try clear p14
       try clear q14
       try clear hx14
       try clear hf14
       try clear hcz15_0
       try clear hcz15_1
       try clear hcz18_0
       try clear hcz18_1
       try clear hcz5_0
       try clear hcz5_1
       try clear hfz15_0
       try clear hfz15_1
       try clear hfz18_0
       try clear hfz18_1
       try clear hfz5_0
       try clear hfz5_1
       try clear hx134_0
       try clear hx14_0
       try clear p134
       try clear p14
       try clear p2
       try clear q134
       try clear q14
       obtain ⟨x4_2, x6_2, rfl, HA, HK2, HO_4, BK130, HB⟩ := hrel
       cases gk with
       | zero => exact absurd HA.out (by simp [spec_l5Classes.l1])
       | succ k2 =>
        have H := HA.out
        clear HA
        simp only [spec_l5Classes.l1] at H
        by_cases c19 : x6_2 ≤ (l0_0.length : Int)
        ·rw [if_pos c19] at H
         have c19b0 : decide (x6_2 ≤ (l0_0.length : Int)) = true := decide_eq_true c19
         clear c19
         by_cases c20 : 0 ≤ (l0_0.length : Int)
         ·rw [if_pos c20] at H
          have c20b0 := eq_true c20
          have c20b1 : decide (0 ≤ (l0_0.length : Int)) = true := decide_eq_true c20
          clear c20
          by_cases c21 : ((l0_0.length : Int) : Int).toNat ≤ 35184372088832
          ·rw [if_pos c21] at H
           have c21b0 := eq_true c21
           have c21b1 : decide (((l0_0.length : Int) : Int).toNat ≤ 35184372088832) = true := decide_eq_true c21
           clear c21
           obtain ⟨y136, hy136⟩ : ∃ y_ : List Int, y_ = (List.replicate ((l0_0.length : Int) : Int).toNat 0) := ⟨_, rfl⟩
           replace H : (spec_l5Classes.l2 k2 (l0_0.length : Int) x4_2 x6_2 y136 0 l0_0 l0_1) = some r := by first | (rw [hy136]; with_reducible exact H) | (have H2_ := (Option.bind_some _ _).symm.trans H; rw [hy136]; with_reducible exact H2_) | (have H2_ := (Option.bind_some _ _).symm.trans H; with_reducible exact H2_) | with_reducible exact H | (rw [hy136]; exact H) | exact H
           have Ny136 := Aside0.mk hy136
           clear hy136
           have H' := Aside0.mk H
           clear H
           go_wp2_with (first | ((with_reducible refine gate_dst (N := 34) rfl ?_); refine Kd.R_make (Kd.int .i64) _ 3 rfl (N := 34) rfl 67 _ _ rfl (l0_0.length : Int) rfl rfl Try.underlying67 (.int .i64 0) 8 info3 rfl (by decide) (by omega) 0 (ok := fun _ => True) (okp := fun _ => True) rfl (fun _ hk => hk) trivial (of_decide_eq_true (by first | (with_reducible assumption) | assumption)) (Nat.le_trans (Nat.mul_le_mul_right _ (of_decide_eq_true (by first | (with_reducible assumption) | assumption) : (l0_0.length : Int).toNat ≤ 35184372088832)) (by omega)) (Below.refl _ _) (Nat.le_refl _) ?_; intro v137 w22 ho23 hb hg_ hnew_; clear hg_ hnew_; (first | rw [← Ny136.out] at ho23 | (simp only [Int.reduceToNat] at ho23; rw [← Ny136.out] at ho23)); have n0_ := Aside0.mk (Kd.R_elder' (by (with_reducible repeat (first | apply Kd.R_alloc | apply Kd.R_drewN | apply Kd.R_drew)); exact HO_4.out) (Kd.R_base ho23) hb); have n1_ := Aside0.mk (Kd.R_lower (Kd.R_new' ho23 (Kd.R_lt (by (with_reducible repeat (first | apply Kd.R_alloc | apply Kd.R_drewN | apply Kd.R_drew)); exact HO_4.out))) (below_size (by repeat (first | (with_reducible first | exact HB.out | apply below_alloc | apply pw_below_drewN | apply below_drew1 | refine below_set ?_ GE130.out) | exact HB.out)))); have n2_ := Aside0.mk (blk_below (g := gb130) (o := .cells #[.slice A0_0 l0_0.length c0_0, .slice A0_1 l0_1.length c0_1] 27 (0, 0)) (by (with_reducible repeat (first | refine blk_drewN ?_ _ | refine blk_drew ?_ | refine blk_alloc ?_ _)); exact BK130.out) hb); have n3_ := Aside0.mk (below_step (by repeat (first | (with_reducible first | exact HB.out | apply below_alloc | apply pw_below_drewN | apply below_drew1 | refine below_set ?_ GE130.out) | exact HB.out)) hb); clear HO_4; clear BK130; clear HB; have HO_4 := n0_; have HO138 := n1_; have BK130 := n2_; have HB := n3_; clear n0_ n1_ n2_ n3_; clear hb ho23))
           go_loopg [8] k2 (fun kq v8 w' => ∃ (x7_3 : List Int) (x8_3 : Int), v8 = .int .i64 x8_3 ∧ Aside0 (spec_l5Classes.l2 kq (l0_0.length : Int) x4_2 x6_2 x7_3 x8_3 l0_0 l0_1 = some r) ∧ Aside0 (kq ≤ k2) ∧ Aside0 (Kd.R (Kd.int .i64) 3 w' w.heap.size (fun k_ => some k_ ≠ (v137 : Value).ownBlock) u4 x4_2) ∧ Aside0 (Kd.R (Kd.int .i64) 3 w' w.heap.size (fun k_ => some k_ ≠ (u4 : Value).ownBlock) v137 x7_3) ∧ Aside0 (w'.heap[gb130]? = some (.cells #[(.slice A0_0 l0_0.length c0_0), (.slice A0_1 l0_1.length c0_1)] 27 (0, 0))) ∧ Aside0 (Below w.heap.size w w'))
           case atStart => exact ⟨(y136), (0), (by first | rfl | (simp; done) | (simp [*]; done)), H', ⟨Nat.le_refl _⟩, ⟨by (with_reducible repeat (first | apply Kd.R_alloc | apply Kd.R_drewN | apply Kd.R_drew)); exact Kd.R_mono HO_4.out (fun _ hk => hk.2)⟩, ⟨by (with_reducible repeat (first | apply Kd.R_alloc | apply Kd.R_drewN | apply Kd.R_drew)); exact Kd.R_mono HO138.out (fun _ hk => hk.2)⟩, ⟨by (with_reducible repeat (first | refine blk_drewN ?_ _ | refine blk_drew ?_ | refine blk_alloc ?_ _)); exact BK130.out⟩, ⟨by repeat (first | (with_reducible first | exact HB.out | apply below_alloc | apply pw_below_drewN | apply below_drew1 | refine below_set ?_ GE130.out) | exact HB.out)⟩⟩
           case round =>
            clear H'
            try clear c1
            try clear p1
            try clear q1
            try clear hx1
            try clear hf1
            try clear c2
            try clear c2b0
            try clear c2b1
            try clear p2
            try clear c3
            try clear c3b0
            try clear c3b1
            try clear p6
            try clear c8
            try clear c8b0
            try clear c9
            try clear c9b0
            try clear c10
            try clear c10b0
            try clear q11
            try clear c12
            try clear c13
            try clear c13b0
            try clear p13
            try clear q13
            try clear hx13
            try clear p14
            try clear q14
            try clear hx14
            try clear hf14
            try clear c19
            try clear c19b0
            try clear c20
            try clear c20b0
            try clear c20b1
            try clear c21
            try clear c21b0
            try clear c21b1
            try clear hcz15_0
            try clear hcz15_1
            try clear hcz18_0
            try clear hcz18_1
            try clear hcz5_0
            try clear hcz5_1
            try clear hfz15_0
            try clear hfz15_1
            try clear hfz18_0
            try clear hfz18_1
            try clear hfz5_0
            try clear hfz5_1
            try clear hx134_0
            try clear hx14_0
            try clear p1
            try clear p13
            try clear p134
            try clear p14
            try clear p2
            try clear p6
            try clear q1
            try clear q11
            try clear q13
            try clear q134
            try clear q14
            obtain ⟨x7_3, x8_3, rfl, HA, HK3, HO_4, HO_7, BK130, HB⟩ := hrel
            cases gk with
            | zero => exact absurd HA.out (by simp [spec_l5Classes.l2])
            | succ k3 =>
             have H := HA.out
             clear HA
             simp only [spec_l5Classes.l2] at H
             by_cases c24 : x8_3 < (l0_0.length : Int)
             ·rw [if_pos c24] at H
              have c24b0 : decide (x8_3 < (l0_0.length : Int)) = true := decide_eq_true c24
              clear c24
              by_cases c25 : 0 ≤ x8_3
              ·rw [if_pos c25] at H
               have c25b0 : decide (0 ≤ x8_3) = true := decide_eq_true c25
               clear c25
               by_cases c26 : x8_3 < (x7_3.length : Int)
               ·rw [if_pos c26] at H
                have c26b0 : decide (x8_3 < (x7_3.length : Int)) = true := decide_eq_true c26
                clear c26
                obtain ⟨y139, hy139⟩ : ∃ y_ : List Int, y_ = (x7_3.set (x8_3 : Int).toNat x8_3) := ⟨_, rfl⟩
                replace H : (spec_l5Classes.l3 k3 (l0_0.length : Int) x4_2 x6_2 y139 x8_3 0 l0_0 l0_1) = some r := by first | (rw [hy139]; with_reducible exact H) | (have H2_ := (Option.bind_some _ _).symm.trans H; rw [hy139]; with_reducible exact H2_) | (have H2_ := (Option.bind_some _ _).symm.trans H; with_reducible exact H2_) | with_reducible exact H | (rw [hy139]; exact H) | exact H
                have Ny139 := Aside0.mk hy139
                clear hy139
                have H' := Aside0.mk H
                clear H
                have p27 : 0 ≤ (x8_3 : Int) := of_decide_eq_true (by first | (with_reducible assumption) | assumption)
                have q27 : (x8_3 : Int) < ((x7_3.length : Int) : Int) := of_decide_eq_true (by first | (with_reducible assumption) | assumption)
                obtain ⟨go27, co27, eo27, gb27, gl27, cl27, HG27⟩ := Kd.R_form HO_7.out (by omega)
                (first | cases eo27 | (injection eo27 with ea_ en_ ec_; (first | subst ea_ | (injection ea_ with ea_; subst ea_)); subst ec_; clear en_))
                have GB27 := Aside0.mk gb27
                have GG27 := Aside0.mk HG27
                clear gb27 gl27 HG27
                obtain ⟨hx27_0, hf27_0⟩ := Kd.R_celln 0 HO_7.out (x8_3 : Int) p27 q27
                replace p27 := eq_true p27
                replace q27 := eq_true q27
                have HP28 := Kd.R_putg HO_7.out (x8_3 : Int) x8_3
                go_wp2_with (first | ((with_reducible refine gate_store (t := 3) (p := 43) rfl ?_); refine store_event (t := 3) (p := 43) (v := ?vo_w29) (w1 := (wr.setCell ⟨go27, (x8_3 : Int).toNat, none⟩ (.int .i64 x8_3))) ?hg ?ho ?hn ?hr ?_; (case ho => rfl); (case hg => rfl); (case hn => rfl); (case hr => first | (go_simp; done) | (go_simp; rfl)); intro w29 hw; have hg : wr.grownBy w29 (some go27) := (by rw [hw]; exact HP28.2); have hp_ : Kd.R (Kd.int .i64) 3 w29 w.heap.size (fun k_ => some k_ ≠ (u4 : Value).ownBlock) (.slice (some ⟨go27, 0, none⟩) x7_3.length co27) y139 := (by rw [hw, Ny139.out]; exact HP28.1); clear HP28; have n0_ := Aside0.mk (Kd.R_after (v := (.slice (some ⟨go27, 0, none⟩) x7_3.length co27)) (v1 := (.slice (some ⟨go27, 0, none⟩) x7_3.length co27)) (ok := (fun _ => True)) (by (with_reducible repeat (first | apply Kd.R_alloc | apply Kd.R_drewN | apply Kd.R_drew)); exact Kd.R_mono HO_4.out (fun _ hk => ⟨trivial, hk⟩)) hg (.inl rfl)); have n1_ := Aside0.mk (hp_); have n2_ := Aside0.mk (blk_grown (g := gb130) (o := .cells #[.slice A0_0 l0_0.length c0_0, .slice A0_1 l0_1.length c0_1] 27 (0, 0)) (by (with_reducible repeat (first | refine blk_drewN ?_ _ | refine blk_drew ?_ | refine blk_alloc ?_ _)); exact BK130.out) hg (Kd.R_ne HO_7.out BK130.out (by decide))); have n3_ := Aside0.mk ((by rw [hw]; exact below_set (HB.out) GB27.out : Below w.heap.size w w29)); clear HO_4; clear HO_7; clear BK130; clear HB; have HO_4 := n0_; have HO_7 := n1_; have BK130 := n2_; have HB := n3_; clear n0_ n1_ n2_ n3_; clear hg hw hp_))
                go_loopg [9] k3 (fun kq v9 w' => ∃ (x7_4 : List Int) (x9_4 : Int), v9 = .int .i64 x9_4 ∧ Aside0 (spec_l5Classes.l3 kq (l0_0.length : Int) x4_2 x6_2 x7_4 x8_3 x9_4 l0_0 l0_1 = some r) ∧ Aside0 (kq ≤ k3) ∧ Aside0 (Kd.R (Kd.int .i64) 3 w' w.heap.size (fun k_ => some k_ ≠ ((.slice (some ⟨go27, 0, none⟩) x7_3.length co27) : Value).ownBlock) u4 x4_2) ∧ Aside0 (Kd.R (Kd.int .i64) 3 w' w.heap.size (fun k_ => some k_ ≠ (u4 : Value).ownBlock) (.slice (some ⟨go27, 0, none⟩) x7_3.length co27) x7_4) ∧ Aside0 (w'.heap[gb130]? = some (.cells #[(.slice A0_0 l0_0.length c0_0), (.slice A0_1 l0_1.length c0_1)] 27 (0, 0))) ∧ Aside0 (Below w.heap.size w w'))
                case atStart => exact ⟨(y139), (0), (by first | rfl | (simp; done) | (simp [*]; done)), H', ⟨Nat.le_refl _⟩, ⟨by (with_reducible repeat (first | apply Kd.R_alloc | apply Kd.R_drewN | apply Kd.R_drew)); exact Kd.R_mono HO_4.out (fun _ hk => hk.2)⟩, ⟨by (with_reducible repeat (first | apply Kd.R_alloc | apply Kd.R_drewN | apply Kd.R_drew)); exact HO_7.out⟩, ⟨by (with_reducible repeat (first | refine blk_drewN ?_ _ | refine blk_drew ?_ | refine blk_alloc ?_ _)); exact BK130.out⟩, ⟨by repeat (first | (with_reducible first | exact HB.out | apply below_alloc | apply pw_below_drewN | apply below_drew1 | refine below_set ?_ GE130.out) | exact HB.out)⟩⟩
                case round =>
                 clear H'
                 try clear c1
                 try clear p1
                 try clear q1
                 try clear hx1
                 try clear hf1
                 try clear c2
                 try clear c2b0
                 try clear c2b1
                 try clear p2
                 try clear q2
                 try clear hx2
                 try clear hf2
                 try clear c3
                 try clear c3b0
                 try clear c3b1
                 try clear p6
                 try clear c8
                 try clear c8b0
                 try clear c9
                 try clear c9b0
                 try clear c10
                 try clear c10b0
                 try clear q11
                 try clear c12
                 try clear c13
                 try clear c13b0
                 try clear p13
                 try clear q13
                 try clear hx13
                 try clear p14
                 try clear q14
                 try clear hx14
                 try clear hf14
                 try clear c19
                 try clear c19b0
                 try clear c20
                 try clear c20b0
                 try clear c20b1
                 try clear c21
                 try clear c21b0
                 try clear c21b1
                 try clear c24
                 try clear c24b0
                 try clear c25
                 try clear c25b0
                 try clear c26
                 try clear c26b0
                 try clear p27
                 try clear q27
                 try clear hx27
                 try clear hf27
                 try clear hcz15_0
                 try clear hcz15_1
                 try clear hcz18_0
                 try clear hcz18_1
                 try clear hcz5_0
                 try clear hcz5_1
                 try clear hfz15_0
                 try clear hfz15_1
                 try clear hfz18_0
                 try clear hfz18_1
                 try clear hfz5_0
                 try clear hfz5_1
                 try clear hx134_0
                 try clear hx14_0
                 try clear hx27_0
                 try clear p1
                 try clear p13
                 try clear p134
                 try clear p14
                 try clear p2
                 try clear p27
                 try clear p6
                 try clear q1
                 try clear q11
                 try clear q13
                 try clear q134
                 try clear q14
                 try clear q27
                 obtain ⟨x7_4, x9_4, rfl, HA, HK4, HO_4, HO_7, BK130, HB⟩ := hrel
                 have hl7_4 := (Kd.R_reads' HO_7.out).1
                 rw [hl7_4] at HO_7
                 (try simp only [hl7_4])
                 (try simp only [hl7_4] at BK130)
                 (try simp only [hl7_4] at HO_4)
                 cases gk with
                 | zero => exact absurd HA.out (by simp [spec_l5Classes.l3])
                 | succ k4 =>
                  have H := HA.out
                  clear HA
                  simp only [spec_l5Classes.l3] at H
                  by_cases c30 : x9_4 < x8_3
                  ·rw [if_pos c30] at H
                   have c30b0 : decide (x9_4 < x8_3) = true := decide_eq_true c30
                   clear c30
                   replace H := Option.bind_eq_some_iff.mp H
                   obtain ⟨t140, A310, H⟩ := H
                   replace H : (if t140 = true then (if 0 ≤ x8_3 then (if x8_3 < (x7_4.length : Int) then (spec_l5Classes.l2 k4 (l0_0.length : Int) x4_2 x6_2 (x7_4.set (x8_3 : Int).toNat x9_4) (wrap64 (x8_3 + 1)) l0_0 l0_1) else (none)) else (none)) else (spec_l5Classes.l3 k4 (l0_0.length : Int) x4_2 x6_2 x7_4 x8_3 (wrap64 (x9_4 + 1)) l0_0 l0_1)) = some r := H
                   have A31 := Aside0.mk A310
                   clear A310
                   by_cases c32 : t140 = true
                   ·subst c32
                    have H1 : (if 0 ≤ x8_3 then (if x8_3 < (x7_4.length : Int) then (spec_l5Classes.l2 k4 (l0_0.length : Int) x4_2 x6_2 (x7_4.set (x8_3 : Int).toNat x9_4) (wrap64 (x8_3 + 1)) l0_0 l0_1) else (none)) else (none)) = some r := by rw [if_pos rfl] at H; exact H
                    clear H
                    have H := H1
                    clear H1
                    by_cases c33 : 0 ≤ x8_3
                    ·rw [if_pos c33] at H
                     have c33b0 : decide (0 ≤ x8_3) = true := decide_eq_true c33
                     clear c33
                     by_cases c34 : x8_3 < (x7_4.length : Int)
                     ·rw [if_pos c34] at H
                      have c34b0 : decide (x8_3 < (x7_4.length : Int)) = true := decide_eq_true c34
                      clear c34
                      obtain ⟨y141, hy141⟩ : ∃ y_ : List Int, y_ = (x7_4.set (x8_3 : Int).toNat x9_4) := ⟨_, rfl⟩
                      replace H : (spec_l5Classes.l2 k4 (l0_0.length : Int) x4_2 x6_2 y141 (wrap64 (x8_3 + 1)) l0_0 l0_1) = some r := by first | (rw [hy141]; with_reducible exact H) | (have H2_ := (Option.bind_some _ _).symm.trans H; rw [hy141]; with_reducible exact H2_) | (have H2_ := (Option.bind_some _ _).symm.trans H; with_reducible exact H2_) | with_reducible exact H | (rw [hy141]; exact H) | exact H
                      have Ny141 := Aside0.mk hy141
                      clear hy141
                      have H' := Aside0.mk H
                      clear H
                      have hcz36_0 : wr.cell? ⟨gb130, 0, none⟩ = some (.slice A0_0 l0_0.length c0_0) := (blk_cell BK130.out 0).trans rfl
                      have hcz36_1 : wr.cell? ⟨gb130, 1, none⟩ = some (.slice A0_1 l0_1.length c0_1) := (blk_cell BK130.out 1).trans rfl
                      have hfz36_0 := blk_frozen BK130.out 0
                      have hfz36_1 := blk_frozen BK130.out 1
                      obtain ⟨Ao37, co37, eo37⟩ := Kd.R_slice HO_4.out
                      subst eo37
                      go_wp2_with (first | ((with_reducible refine gate_callee (f := 133) rfl ?_); refine goesL_ (some 53) rfl rfl Try.func133 (by kernel_rfl) rfl #[.agg #[.slice A0_0 l0_0.length c0_0, .slice A0_1 l0_1.length c0_1], .slice Ao37 x4_2.length co37, .int .i64 x9_4, .int .i64 x8_3] rfl (by (try simp only [List.map_toArray, List.map_cons, List.map_nil]); first | done | rfl | (simp only [List.length_drop, List.length_take]; rfl)) ?_; (with_reducible refine (spec_l5Same.calls k4 _ _ l0_0 _ _ l0_1 _ _ x4_2 x9_4 x8_3 true _ ?side1 ?side2 ?side3 ?side4 ?side5 ?side6 A31.out).mono ?_); (case side1 => repeat (first | exact (Kd.C_below HR0_0.out HB.out) | (with_reducible refine Kd.C_alloc ?_ _) | (with_reducible refine Kd.C_drewN ?_ _) | (with_reducible refine Kd.C_drew ?_))); (case side2 => exact HC0_0.out); (case side3 => repeat (first | exact (Kd.C_below HR0_1.out HB.out) | (with_reducible refine Kd.C_alloc ?_ _) | (with_reducible refine Kd.C_drewN ?_ _) | (with_reducible refine Kd.C_drew ?_))); (case side4 => exact HC0_1.out); (case side5 => repeat (first | exact (Kd.R_reads' HO_4.out).2.2 | (with_reducible refine Kd.C_alloc ?_ _) | (with_reducible refine Kd.C_drewN ?_ _) | (with_reducible refine Kd.C_drew ?_))); (case side6 => exact (Kd.R_reads' HO_4.out).2.1); rintro e w38 ⟨rfl, hb⟩; refine ⟨_, rfl, ?_⟩; have n0_ := Aside0.mk (Kd.R_below (by (with_reducible repeat (first | apply Kd.R_alloc | apply Kd.R_drewN | apply Kd.R_drew)); exact HO_4.out) hb); have n1_ := Aside0.mk (Kd.R_below (by (with_reducible repeat (first | apply Kd.R_alloc | apply Kd.R_drewN | apply Kd.R_drew)); exact HO_7.out) hb); have n2_ := Aside0.mk (blk_below (g := gb130) (o := .cells #[.slice A0_0 l0_0.length c0_0, .slice A0_1 l0_1.length c0_1] 27 (0, 0)) (by (with_reducible repeat (first | refine blk_drewN ?_ _ | refine blk_drew ?_ | refine blk_alloc ?_ _)); exact BK130.out) hb); have n3_ := Aside0.mk (below_step (by repeat (first | (with_reducible first | exact HB.out | apply below_alloc | apply pw_below_drewN | apply below_drew1 | refine below_set ?_ GE130.out) | exact HB.out)) hb); clear HO_4; clear HO_7; clear BK130; clear HB; have HO_4 := n0_; have HO_7 := n1_; have BK130 := n2_; have HB := n3_; clear n0_ n1_ n2_ n3_; (try clear hb); (try clear hb2); (try clear hk); (try clear hi); have p35 : 0 ≤ (x8_3 : Int) := of_decide_eq_true (by first | (with_reducible assumption) | assumption); have q35 : (x8_3 : Int) < ((x7_4.length : Int) : Int) := of_decide_eq_true (by first | (with_reducible assumption) | assumption); obtain ⟨hx35_0, hf35_0⟩ := Kd.R_celln 0 HO_7.out (x8_3 : Int) p35 q35; replace p35 := eq_true p35; replace q35 := eq_true q35; obtain ⟨hy39_, hz39_⟩ := Kd.R_celln 0 HO_7.out (x8_3 : Int) (of_decide_eq_true (by first | (with_reducible assumption) | assumption)) (of_decide_eq_true (by first | (with_reducible assumption) | assumption)); have HP39 := Kd.R_putg HO_7.out (x8_3 : Int) x9_4) | ((with_reducible refine gate_store (t := 3) (p := 57) rfl ?_); refine store_event (t := 3) (p := 57) (v := ?vo_w40) (w1 := (w38.setCell ⟨go27, (x8_3 : Int).toNat, none⟩ (.int .i64 x9_4))) ?hg ?ho ?hn ?hr ?_; (case ho => rfl); (case hg => rfl); (case hn => rfl); (case hr => first | (go_simp; done) | (go_simp; rfl)); intro w40 hw; have hg : w38.grownBy w40 (some go27) := (by rw [hw]; exact HP39.2); have hp_ : Kd.R (Kd.int .i64) 3 w40 w.heap.size (fun k_ => some k_ ≠ (.slice Ao37 x4_2.length co37 : Value).ownBlock) (.slice (some ⟨go27, 0, none⟩) x7_4.length co27) y141 := (by rw [hw, Ny141.out]; exact HP39.1); clear HP39; have n0_ := Aside0.mk (Kd.R_after (v := (.slice (some ⟨go27, 0, none⟩) x7_4.length co27)) (v1 := (.slice (some ⟨go27, 0, none⟩) x7_4.length co27)) (ok := (fun _ => True)) (by (with_reducible repeat (first | apply Kd.R_alloc | apply Kd.R_drewN | apply Kd.R_drew)); exact Kd.R_mono HO_4.out (fun _ hk => ⟨trivial, hk⟩)) hg (.inl rfl)); have n1_ := Aside0.mk (hp_); have n2_ := Aside0.mk (blk_grown (g := gb130) (o := .cells #[.slice A0_0 l0_0.length c0_0, .slice A0_1 l0_1.length c0_1] 27 (0, 0)) (by (with_reducible repeat (first | refine blk_drewN ?_ _ | refine blk_drew ?_ | refine blk_alloc ?_ _)); exact BK130.out) hg (Kd.R_ne HO_7.out BK130.out (by decide))); have n3_ := Aside0.mk ((by rw [hw]; exact below_set (HB.out) GB27.out : Below w.heap.size w w40)); clear HO_4; clear HO_7; clear BK130; clear HB; have HO_4 := n0_; have HO_7 := n1_; have BK130 := n2_; have HB := n3_; clear n0_ n1_ n2_ n3_; clear hg hw hp_))
                      (try simp only [← hl7_4])
                      go_roundg k4
                      case measure => have := HK1.out; have := HK2.out; have := HK3.out; have := HK4.out; omega
                      case rel => exact ⟨(y141), (wrap64 (x8_3 + 1)), (by first | rfl | (simp; done) | (simp [*]; done)), H', ⟨by have := HK1.out; have := HK2.out; have := HK3.out; have := HK4.out; omega⟩, ⟨by (try simp only [hl7_4]); (with_reducible repeat (first | apply Kd.R_alloc | apply Kd.R_drewN | apply Kd.R_drew)); exact Kd.R_mono HO_4.out (fun _ hk => hk.2)⟩, ⟨by (try simp only [hl7_4]); (with_reducible repeat (first | apply Kd.R_alloc | apply Kd.R_drewN | apply Kd.R_drew)); exact HO_7.out⟩, ⟨by (try simp only [hl7_4]); (with_reducible repeat (first | refine blk_drewN ?_ _ | refine blk_drew ?_ | refine blk_alloc ?_ _)); exact BK130.out⟩, ⟨by repeat (first | (with_reducible first | exact HB.out | apply below_alloc | apply pw_below_drewN | apply below_drew1 | refine below_set ?_ GE130.out) | exact HB.out)⟩⟩
                     ·rw [if_neg c34] at H
                      exact absurd H (by simp)
                    ·rw [if_neg c33] at H
                     exact absurd H (by simp)
                   ·replace c32 := Bool.eq_false_iff.mpr c32
                    subst c32
                    have H1 : (spec_l5Classes.l3 k4 (l0_0.length : Int) x4_2 x6_2 x7_4 x8_3 (wrap64 (x9_4 + 1)) l0_0 l0_1) = some r := by rw [if_neg (show ¬ (false = true) by decide)] at H; exact H
                    clear H
                    have H := H1
                    clear H1
                    have H' := Aside0.mk H
                    clear H
                    have hcz41_0 : wr.cell? ⟨gb130, 0, none⟩ = some (.slice A0_0 l0_0.length c0_0) := (blk_cell BK130.out 0).trans rfl
                    have hcz41_1 : wr.cell? ⟨gb130, 1, none⟩ = some (.slice A0_1 l0_1.length c0_1) := (blk_cell BK130.out 1).trans rfl
                    have hfz41_0 := blk_frozen BK130.out 0
                    have hfz41_1 := blk_frozen BK130.out 1
                    obtain ⟨Ao42, co42, eo42⟩ := Kd.R_slice HO_4.out
                    subst eo42
                    go_wp2_with (first | ((with_reducible refine gate_callee (f := 133) rfl ?_); refine goesL_ (some 53) rfl rfl Try.func133 (by kernel_rfl) rfl #[.agg #[.slice A0_0 l0_0.length c0_0, .slice A0_1 l0_1.length c0_1], .slice Ao42 x4_2.length co42, .int .i64 x9_4, .int .i64 x8_3] rfl (by (try simp only [List.map_toArray, List.map_cons, List.map_nil]); first | done | rfl | (simp only [List.length_drop, List.length_take]; rfl)) ?_; (with_reducible refine (spec_l5Same.calls k4 _ _ l0_0 _ _ l0_1 _ _ x4_2 x9_4 x8_3 false _ ?side1 ?side2 ?side3 ?side4 ?side5 ?side6 A31.out).mono ?_); (case side1 => repeat (first | exact (Kd.C_below HR0_0.out HB.out) | (with_reducible refine Kd.C_alloc ?_ _) | (with_reducible refine Kd.C_drewN ?_ _) | (with_reducible refine Kd.C_drew ?_))); (case side2 => exact HC0_0.out); (case side3 => repeat (first | exact (Kd.C_below HR0_1.out HB.out) | (with_reducible refine Kd.C_alloc ?_ _) | (with_reducible refine Kd.C_drewN ?_ _) | (with_reducible refine Kd.C_drew ?_))); (case side4 => exact HC0_1.out); (case side5 => repeat (first | exact (Kd.R_reads' HO_4.out).2.2 | (with_reducible refine Kd.C_alloc ?_ _) | (with_reducible refine Kd.C_drewN ?_ _) | (with_reducible refine Kd.C_drew ?_))); (case side6 => exact (Kd.R_reads' HO_4.out).2.1); rintro e w43 ⟨rfl, hb⟩; refine ⟨_, rfl, ?_⟩; have n0_ := Aside0.mk (Kd.R_below (by (with_reducible repeat (first | apply Kd.R_alloc | apply Kd.R_drewN | apply Kd.R_drew)); exact HO_4.out) hb); have n1_ := Aside0.mk (Kd.R_below (by (with_reducible repeat (first | apply Kd.R_alloc | apply Kd.R_drewN | apply Kd.R_drew)); exact HO_7.out) hb); have n2_ := Aside0.mk (blk_below (g := gb130) (o := .cells #[.slice A0_0 l0_0.length c0_0, .slice A0_1 l0_1.length c0_1] 27 (0, 0)) (by (with_reducible repeat (first | refine blk_drewN ?_ _ | refine blk_drew ?_ | refine blk_alloc ?_ _)); exact BK130.out) hb); have n3_ := Aside0.mk (below_step (by repeat (first | (with_reducible first | exact HB.out | apply below_alloc | apply pw_below_drewN | apply below_drew1 | refine below_set ?_ GE130.out) | exact HB.out)) hb); clear HO_4; clear HO_7; clear BK130; clear HB; have HO_4 := n0_; have HO_7 := n1_; have BK130 := n2_; have HB := n3_; clear n0_ n1_ n2_ n3_; (try clear hb); (try clear hb2); (try clear hk); (try clear hi)))
                    (try simp only [← hl7_4])
                    go_roundg k4
                    case measure => have := HK1.out; have := HK2.out; have := HK3.out; have := HK4.out; omega
                    case rel => exact ⟨(x7_4), (wrap64 (x9_4 + 1)), (by first | rfl | (simp; done) | (simp [*]; done)), H', ⟨by have := HK1.out; have := HK2.out; have := HK3.out; have := HK4.out; omega⟩, ⟨by (try simp only [hl7_4]); (with_reducible repeat (first | apply Kd.R_alloc | apply Kd.R_drewN | apply Kd.R_drew)); exact HO_4.out⟩, ⟨by (try simp only [hl7_4]); (with_reducible repeat (first | apply Kd.R_alloc | apply Kd.R_drewN | apply Kd.R_drew)); exact HO_7.out⟩, ⟨by (try simp only [hl7_4]); (with_reducible repeat (first | refine blk_drewN ?_ _ | refine blk_drew ?_ | refine blk_alloc ?_ _)); exact BK130.out⟩, ⟨by repeat (first | (with_reducible first | exact HB.out | apply below_alloc | apply pw_below_drewN | apply below_drew1 | refine below_set ?_ GE130.out) | exact HB.out)⟩⟩
                  ·rw [if_neg c30] at H
                   have c30b0 : decide (x9_4 < x8_3) = false := decide_eq_false c30
                   clear c30
                   have H' := Aside0.mk H
                   clear H
                   go_wp2
                   (try simp only [← hl7_4])
                   go_roundg k4
                   case measure => have := HK1.out; have := HK2.out; have := HK3.out; have := HK4.out; omega
                   case rel => exact ⟨(x7_4), (wrap64 (x8_3 + 1)), (by first | rfl | (simp; done) | (simp [*]; done)), H', ⟨by have := HK1.out; have := HK2.out; have := HK3.out; have := HK4.out; omega⟩, ⟨by (try simp only [hl7_4]); (with_reducible repeat (first | apply Kd.R_alloc | apply Kd.R_drewN | apply Kd.R_drew)); exact HO_4.out⟩, ⟨by (try simp only [hl7_4]); (with_reducible repeat (first | apply Kd.R_alloc | apply Kd.R_drewN | apply Kd.R_drew)); exact HO_7.out⟩, ⟨by (try simp only [hl7_4]); (with_reducible repeat (first | refine blk_drewN ?_ _ | refine blk_drew ?_ | refine blk_alloc ?_ _)); exact BK130.out⟩, ⟨by repeat (first | (with_reducible first | exact HB.out | apply below_alloc | apply pw_below_drewN | apply below_drew1 | refine below_set ?_ GE130.out) | exact HB.out)⟩⟩
               ·rw [if_neg c26] at H
                exact absurd H (by simp)
              ·rw [if_neg c25] at H
               exact absurd H (by simp)
             ·rw [if_neg c24] at H
              have c24b0 : decide (x8_3 < (l0_0.length : Int)) = false := decide_eq_false c24
              clear c24
              have H' := Aside0.mk H
              clear H
              go_wp2
              go_roundg k3
              case measure => have := HK1.out; have := HK2.out; have := HK3.out; omega
              case rel => exact ⟨(x7_3), (wrap64 (x6_2 + 1)), (by first | rfl | (simp; done) | (simp [*]; done)), H', ⟨by have := HK1.out; have := HK2.out; have := HK3.out; omega⟩, ⟨by (with_reducible repeat (first | apply Kd.R_alloc | apply Kd.R_drewN | apply Kd.R_drew)); exact Kd.R_mono HO_7.out (fun _ hk => trivial)⟩, ⟨by (with_reducible repeat (first | refine blk_drewN ?_ _ | refine blk_drew ?_ | refine blk_alloc ?_ _)); exact BK130.out⟩, ⟨by repeat (first | (with_reducible first | exact HB.out | apply below_alloc | apply pw_below_drewN | apply below_drew1 | refine below_set ?_ GE130.out) | exact HB.out)⟩⟩
          ·rw [if_neg c21] at H
           exact absurd H (by simp)
         ·rw [if_neg c20] at H
          exact absurd H (by simp)
        ·rw [if_neg c19] at H
         have c19b0 : decide (x6_2 ≤ (l0_0.length : Int)) = false := decide_eq_false c19
         clear c19
         obtain rfl := Option.some.inj H
         simp only [Option.some.injEq, Prod.mk.injEq] at H
         obtain ⟨rfl⟩ := H
         go_wp2
         go_ret
         exact ⟨_, by first | rfl | (simp [errW_none, errW_some] <;> rfl) | (simp [*, errW_none, errW_some] <;> rfl), by (with_reducible repeat (first | apply Kd.R_alloc | apply Kd.R_drewN | apply Kd.R_drew)); exact HO_4.out, by repeat (first | (with_reducible first | exact HB.out | apply below_alloc | apply pw_below_drewN | apply below_drew1 | refine below_set ?_ GE130.out) | exact HB.out)⟩
  ·rw [if_neg c3] at H
   exact absurd H (by simp)
 ·rw [if_neg c2] at H
  exact absurd H (by simp)
end Go.Proofs.Ytogamkblkoobkaa.P
end
section
namespace Go.Proofs.Ytogamkblkoobkaa.Can
open Go.RowKit Go.Proofs.Ytogamkblkoobkaa Go.Proofs.Ytogamkblkoobkaa.P Go.Proofs.Ytogamkblkoobkaa.Lg Go.Proofs.Ytogamkblkoobkaa.Pl Go.Proofs.Ytogamkblkoobkaa.Mp Go.Proofs.Ytogamkblkoobkaa.Bf Go.Proofs.Ytogamkblkoobkaa.Mn Go.Proofs.YtogamkblkoobkaaW.PrintWords Go.Proofs.YtogamkblkoobkaaW.PrintLast Go.Proofs.YtogamkblkoobkaaW.PrintMore
set_option linter.unusedVariables false
set_option linter.unusedSimpArgs false
set_option linter.unusedSectionVars false
def findOf (l : List Int) (x : Int) : Int := if x ∈ l then (l.idxOf x : Int) else -1
theorem find_l0 (l : List Int) (x : Int) (hl : l.length ≤ 2000000) : ∀ d i : Nat, i + d = l.length → x ∉ l.take i → Ev (fun k => spec_l5Find.l0 k l x i) (findOf l x) := by
  intro d
  induction d with
  | zero =>
    intro i h hx
    refine next ?_
    simp only [spec_l5Find.l0, if_neg (show ¬ (i : Int) < (l.length : Int) by omega)]
    rw [List.take_of_length_le (by omega)] at hx
    exact ev_some (by unfold findOf; rw [if_neg hx])
  | succ d ih =>
    intro i h hx
    have hi : i < l.length := by omega
    refine next ?_
    simp only [spec_l5Find.l0, if_pos (show (i : Int) < (l.length : Int) by omega), if_pos (show (0 : Int) ≤ (i : Int) by omega), rd_get l i hi]
    by_cases e : l[i] = x
    · simp only [if_pos e]
      refine ev_some ?_
      have hm : x ∈ l := e ▸ List.getElem_mem hi
      unfold findOf
      rw [if_pos hm]
      have : l.idxOf x = i := by
        conv => lhs; rw [← List.take_append_drop i l, List.drop_eq_getElem_cons hi]
        rw [List.idxOf_append, if_neg hx, e, List.idxOf_cons_self]
        simp
        omega
      rw [this]
    · simp only [if_neg e]
      rw [up1 (by omega)]
      refine ih (i + 1) (by omega) ?_
      rw [List.take_succ_eq_append_getElem hi]
      intro hm
      rcases List.mem_append.mp hm with q | q
      · exact hx q
      · rw [List.mem_singleton] at q
        exact e q.symm
theorem find_ev (l : List Int) (x : Int) (hl : l.length ≤ 2000000) : Ev (fun k => spec_l5Find.f k l x) (findOf l x) := find_l0 l x hl l.length 0 (by omega) (by simp)
def eqAt (nx : List (List Int)) (cl : List Int) (p q : Int) (j : Int) : Bool := rd cl (rd (rowOf nx p) j) == rd cl (rd (rowOf nx q) j)
def sameB (nx : List (List Int)) (cl : List Int) (p q : Int) : Bool := (((rd cl p == rd cl q) && eqAt nx cl p q 0) && eqAt nx cl p q 1) && eqAt nx cl p q 2
theorem sameB_iff {nx : List (List Int)} {cl : List Int} {p q : Int} : sameB nx cl p q = true ↔ rd cl p = rd cl q ∧ ∀ k : Fin 3, rd cl (rd (rowOf nx p) (k.val : Int)) = rd cl (rd (rowOf nx q) (k.val : Int)) := by
  unfold sameB eqAt
  simp only [Bool.and_eq_true, beq_iff_eq]
  constructor
  · rintro ⟨⟨⟨h, h0⟩, h1⟩, h2⟩
    refine ⟨h, fun k => ?_⟩
    match k with
    | 0 => exact h0
    | 1 => exact h1
    | 2 => exact h2
  · rintro ⟨h, hk⟩
    exact ⟨⟨⟨h, hk 0⟩, hk 1⟩, hk 2⟩
section
variable {acc : List Bool} {nx : List (List Int)} {cl : List Int}
theorem same_step (hf : Fits acc nx) (hcl : cl.length = acc.length) {p q : Int} (hp : 0 ≤ p ∧ p < (acc.length : Int)) (hq : 0 ≤ q ∧ q < (acc.length : Int)) (b : Bool) (j : Nat) (hj : j < 3) {r : Bool}
    (h : Ev (fun k => spec_l5Same.l0 k cl p q (b && eqAt nx cl p q j) ((j + 1 : Nat) : Int) acc nx) r) : Ev (fun k => spec_l5Same.l0 k cl p q b (j : Int) acc nx) r := by
  refine next ?_
  have h1 : (rd_L1 nx p).length = 3 ∧ ∀ x ∈ rd_L1 nx p, 0 ≤ x ∧ x < (acc.length : Int) := hf.row p hp
  have h2 : (rd_L1 nx q).length = 3 ∧ ∀ x ∈ rd_L1 nx q, 0 ≤ x ∧ x < (acc.length : Int) := hf.row q hq
  have hl := hf.len
  have e1 := h1.2 _ (rd_mem h1.1 ⟨j, hj⟩)
  have e2 := h2.2 _ (rd_mem h2.1 ⟨j, hj⟩)
  dsimp only at e1 e2
  cases b with
  | true =>
    simp only [spec_l5Same.l0, if_pos (show (j : Int) < 3 by omega), if_pos hp.1, if_pos hq.1, if_pos (show p < (nx.length : Int) by omega), if_pos (show q < (nx.length : Int) by omega), if_pos (show (0 : Int) ≤ (j : Int) by omega), if_pos (show (j : Int) < ((rd_L1 nx p).length : Int) by omega), if_pos (show (j : Int) < ((rd_L1 nx q).length : Int) by omega), if_pos e1.1, if_pos e2.1, if_pos (show rd (rd_L1 nx p) (j : Int) < (cl.length : Int) by omega), if_pos (show rd (rd_L1 nx q) (j : Int) < (cl.length : Int) by omega), if_true]
    rw [up1 (by omega)]
    exact h
  | false =>
    simp only [spec_l5Same.l0, if_pos (show (j : Int) < 3 by omega), if_neg (show ¬ false = true by decide)]
    rw [up1 (by omega)]
    exact h
theorem same_ev (hf : Fits acc nx) (hcl : cl.length = acc.length) {p q : Int} (hp : 0 ≤ p ∧ p < (acc.length : Int)) (hq : 0 ≤ q ∧ q < (acc.length : Int)) : Ev (fun k => spec_l5Same.f k acc nx cl p q) (sameB nx cl p q) := by
  have hl := hf.len
  have h0 : Ev (fun k => spec_l5Same.l0 k cl p q (rd cl p == rd cl q) ((0 : Nat) : Int) acc nx) (sameB nx cl p q) := by
    refine same_step hf hcl hp hq _ 0 (by omega) (same_step hf hcl hp hq _ 1 (by omega) (same_step hf hcl hp hq _ 2 (by omega) ?_))
    refine next ?_
    simp only [spec_l5Same.l0, if_neg (show ¬ ((2 + 1 : Nat) : Int) < 3 by decide)]
    exact ev_some rfl
  refine h0.congr fun k => ?_
  simp only [spec_l5Same.f, if_pos hp.1, if_pos hq.1, if_pos (show p < (cl.length : Int) by omega), if_pos (show q < (cl.length : Int) by omega)]
  rfl
def cl0 (acc : List Bool) : List Int := acc.map fun b => if b = true then 1 else 0
def leastF (nx : List (List Int)) (cl : List Int) (q : Nat) : Int := (((List.range q).find? (fun p : Nat => sameB nx cl (p : Int) (q : Int))).getD q : Nat)
def refS (nx : List (List Int)) (cl : List Int) : List Int := (List.range cl.length).map (leastF nx cl)
def iterS (nx : List (List Int)) : Nat → List Int → List Int
  | 0, cl => cl
  | d + 1, cl => iterS nx d (refS nx cl)
theorem set_at {n i : Nat} (hi : i < n) (A : List Int) (hA : A.length = i) (y : Int) : (A ++ List.replicate (n - i) (0 : Int)).set i y = (A ++ [y]) ++ List.replicate (n - (i + 1)) 0 := by
  have := set_mid A (0 : Int) y (List.replicate (n - (i + 1)) 0)
  rw [hA] at this
  rw [show n - i = (n - (i + 1)) + 1 by omega, List.replicate_succ]
  exact this
theorem cls_l3 (hf : Fits acc nx) (hcl : cl.length = acc.length) (hb : acc.length ≤ 1100000) (t : Int) (X : List Int) (hX : X.length = acc.length) (i : Nat) (hi : i < acc.length) {r : List Int}
    (h : Ev (fun k => spec_l5Classes.l2 k (acc.length : Int) cl t (X.set i (leastF nx cl i)) ((i + 1 : Nat) : Int) acc nx) r) :
    ∀ d p : Nat, p + d = i → (∀ p' : Nat, p' < p → sameB nx cl p' i = false) → Ev (fun k => spec_l5Classes.l3 k (acc.length : Int) cl t (X.set i (i : Int)) (i : Int) (p : Int) acc nx) r := by
  intro d
  induction d with
  | zero =>
    intro p hp hno
    refine next ?_
    simp only [spec_l5Classes.l3, if_neg (show ¬ (p : Int) < (i : Int) by omega)]
    rw [up1 (by omega)]
    have e : leastF nx cl i = (i : Int) := by
      unfold leastF
      have : (List.range i).find? (fun p : Nat => sameB nx cl (p : Int) (i : Int)) = none := by
        rw [List.find?_eq_none]
        intro x hx
        rw [List.mem_range] at hx
        rw [hno x (by omega)]
        decide
      rw [this]
      rfl
    rw [← e]
    exact h
  | succ d ih =>
    intro p hp hno
    refine next ?_
    simp only [spec_l5Classes.l3, if_pos (show (p : Int) < (i : Int) by omega)]
    refine (same_ev hf hcl (p := (p : Int)) (q := (i : Int)) (by omega) (by omega)).bind ?_
    cases hs : sameB nx cl (p : Int) (i : Int) with
    | true =>
      simp only [if_true, if_pos (show (0 : Int) ≤ (i : Int) by omega), if_pos (show (i : Int) < ((X.set i (i : Int)).length : Int) by rw [List.length_set]; omega), Int.toNat_natCast, List.set_set]
      rw [up1 (by omega)]
      have e : leastF nx cl i = (p : Int) := by
        unfold leastF
        have : (List.range i).find? (fun p : Nat => sameB nx cl (p : Int) (i : Int)) = some p := by
          rw [List.find?_eq_some_iff_getElem]
          refine ⟨hs, p, by simp; omega, by simp, fun j hj => ?_⟩
          rw [List.getElem_range, hno j hj]
          rfl
        rw [this]
        rfl
      rw [← e]
      exact h
    | false =>
      simp only [if_neg (show ¬ false = true by decide)]
      rw [up1 (by omega)]
      refine ih (p + 1) (by omega) fun p' hp' => ?_
      by_cases e : p' = p
      · subst e; exact hs
      · exact hno p' (by omega)
theorem cls_l2 (hf : Fits acc nx) (hcl : cl.length = acc.length) (hb : acc.length ≤ 1100000) (t : Nat) (ht : t ≤ 1100000) {r : List Int}
    (h : Ev (fun k => spec_l5Classes.l1 k (acc.length : Int) (refS nx cl) ((t + 1 : Nat) : Int) acc nx) r) :
    ∀ d i : Nat, i + d = acc.length → Ev (fun k => spec_l5Classes.l2 k (acc.length : Int) cl (t : Int) ((List.range i).map (leastF nx cl) ++ List.replicate (acc.length - i) 0) (i : Int) acc nx) r := by
  intro d
  induction d with
  | zero =>
    intro i hi
    refine next ?_
    simp only [spec_l5Classes.l2, if_neg (show ¬ (i : Int) < (acc.length : Int) by omega)]
    rw [up1 (by omega)]
    have e : (List.range i).map (leastF nx cl) ++ List.replicate (acc.length - i) 0 = refS nx cl := by
      unfold refS
      rw [hcl, show i = acc.length by omega]
      simp
    rw [e]
    exact h
  | succ d ih =>
    intro i hi
    refine next ?_
    have hlen : ((List.range i).map (leastF nx cl) ++ List.replicate (acc.length - i) (0 : Int)).length = acc.length := by simp; omega
    simp only [spec_l5Classes.l2, if_pos (show (i : Int) < (acc.length : Int) by omega), if_pos (show (0 : Int) ≤ (i : Int) by omega), if_pos (show (i : Int) < (((List.range i).map (leastF nx cl) ++ List.replicate (acc.length - i) (0 : Int)).length : Int) by omega), Int.toNat_natCast]
    refine cls_l3 hf hcl hb (t : Int) _ hlen i (by omega) ?_ i 0 (by omega) (fun _ h => by omega)
    rw [set_at (by omega) _ (by simp), ← List.map_singleton, ← List.map_append, ← List.range_succ]
    exact ih (i + 1) (by omega)
theorem refS_len (nx : List (List Int)) (cl : List Int) : (refS nx cl).length = cl.length := by simp [refS]
theorem cls_l1 (hf : Fits acc nx) (hb : acc.length ≤ 1100000) : ∀ (d t : Nat) (cl : List Int), cl.length = acc.length → t + d = acc.length + 1 → Ev (fun k => spec_l5Classes.l1 k (acc.length : Int) cl (t : Int) acc nx) (iterS nx d cl) := by
  intro d
  induction d with
  | zero =>
    intro t cl hcl ht
    refine next ?_
    simp only [spec_l5Classes.l1, if_neg (show ¬ (t : Int) ≤ (acc.length : Int) by omega)]
    exact ev_some rfl
  | succ d ih =>
    intro t cl hcl ht
    refine next ?_
    simp only [spec_l5Classes.l1, if_pos (show (t : Int) ≤ (acc.length : Int) by omega), if_pos (show (0 : Int) ≤ (acc.length : Int) by omega), Int.toNat_natCast, if_pos (show acc.length ≤ 35184372088832 by omega)]
    show Ev _ (iterS nx d (refS nx cl))
    have := cls_l2 hf hcl hb t (by omega) (ih (t + 1) (refS nx cl) (by rw [refS_len]; exact hcl) (by omega)) acc.length 0 (by omega)
    simpa using this
theorem cls_l0 (hf : Fits acc nx) (hb : acc.length ≤ 1100000) {r : List Int} (h : Ev (fun k => spec_l5Classes.l1 k (acc.length : Int) (cl0 acc) 0 acc nx) r) :
    ∀ d i : Nat, i + d = acc.length → Ev (fun k => spec_l5Classes.l0 k (acc.length : Int) ((acc.take i).map (fun b => if b = true then (1 : Int) else 0) ++ List.replicate (acc.length - i) 0) (i : Int) acc nx) r := by
  intro d
  induction d with
  | zero =>
    intro i hi
    refine next ?_
    simp only [spec_l5Classes.l0, if_neg (show ¬ (i : Int) < (acc.length : Int) by omega)]
    rw [List.take_of_length_le (by omega), show acc.length - i = 0 by omega]
    simpa [cl0] using h
  | succ d ih =>
    intro i hi
    refine next ?_
    have hii : i < acc.length := by omega
    have hlen : (((acc.take i).map (fun b => if b = true then (1 : Int) else 0) ++ List.replicate (acc.length - i) (0 : Int)).length : Int) = (acc.length : Int) := by simp; omega
    have hs : ∀ y, ((acc.take i).map (fun b => if b = true then (1 : Int) else 0) ++ List.replicate (acc.length - i) (0 : Int)).set i y = ((acc.take i).map (fun b => if b = true then (1 : Int) else 0) ++ [y]) ++ List.replicate (acc.length - (i + 1)) 0 := fun y => set_at hii _ (by simp; omega) y
    have hz := hs 0
    have hsame : ((acc.take i).map (fun b => if b = true then (1 : Int) else 0) ++ List.replicate (acc.length - i) (0 : Int)).set i 0 = (acc.take i).map (fun b => if b = true then (1 : Int) else 0) ++ List.replicate (acc.length - i) (0 : Int) := by
      rw [hz, show acc.length - i = (acc.length - (i + 1)) + 1 by omega, List.replicate_succ]
      simp
    have IH := ih (i + 1) (by omega)
    rw [List.take_succ_eq_append_getElem hii, List.map_append, List.map_singleton] at IH
    simp only [spec_l5Classes.l0, if_pos (show (i : Int) < (acc.length : Int) by omega), if_pos (show (0 : Int) ≤ (i : Int) by omega), rdOf_get false acc i hii]
    rw [up1 (by omega)]
    cases hb2 : acc[i] with
    | true =>
      rw [hb2] at IH
      simp only [if_true] at IH ⊢
      simp only [hlen, if_pos (show (i : Int) < (acc.length : Int) by omega), Int.toNat_natCast, hs]
      exact IH
    | false =>
      rw [hb2] at IH
      simp only [if_neg (show ¬ false = true by decide)] at IH ⊢
      rw [← hsame, hz]
      exact IH
theorem cls_ev (hf : Fits acc nx) (hb : acc.length ≤ 1100000) : Ev (fun k => spec_l5Classes.f k acc nx) (iterS nx (acc.length + 1) (cl0 acc)) := by
  have h1 := cls_l1 hf hb (acc.length + 1) 0 (cl0 acc) (by simp [cl0]) (by omega)
  have h0 := cls_l0 hf hb h1 acc.length 0 (by omega)
  refine h0.congr fun k => ?_
  simp only [spec_l5Classes.f, if_pos (show (0 : Int) ≤ (acc.length : Int) by omega), Int.toNat_natCast, if_pos (show acc.length ≤ 35184372088832 by omega)]
  simp
end
end Go.Proofs.Ytogamkblkoobkaa.Can
end
