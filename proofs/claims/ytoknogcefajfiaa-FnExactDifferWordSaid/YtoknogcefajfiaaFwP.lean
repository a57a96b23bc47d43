/- The walk of firstWord at [2]int. No condition. -/
import Derived.Shelf.Abstract
import Derived.Lib.Walk
import Derived.Test.YtoknogcefajfiaaFwW
import Derived.DeepKeys4
import Derived.WideKeyPair
import Derived.Test.YtoknogcefajfiaaP0
namespace Go.Proofs.Ytoknogcefajfiaa.Wk
open Go.RowKit Go.Shelf Go.Proofs.Ytoknogcefajfiaa.P Go.Proofs.Ytoknogcefajfiaa.Pl Go.Proofs.Ytoknogcefajfiaa.Mp Go.Proofs.Ytoknogcefajfiaa.Bf Go.Proofs.YtoknogcefajfiaaW.PrintWords Go.Proofs.YtoknogcefajfiaaW.PrintLast Go.Proofs.YtoknogcefajfiaaW.PrintMore
set_option linter.unusedVariables false
set_option linter.unusedSimpArgs false

abbrev Pr := Int × Int
def encP (x : Pr) : Value := .agg #[.int .i64 x.1, .int .i64 x.2]
abbrev wfP (x : Pr) : Prop := wfI x.1 ∧ wfI x.2
abbrev kdP : Kd Pr := Kd.pair (Kd.int .i64) (Kd.int .i64)
theorem laidOutP : laidOutB Try.prog = true := by kernel_rfl
theorem arrP : Go.WideMaps.ArrKey Try.prog 93 3 2 := ⟨Try.underlying93, by kernel_rfl, by kernel_rfl, by kernel_rfl⟩
theorem keyP (x : Pr) (h : wfP x) : ∃ l, keyOf Try.prog 93 (encP x) = some l := ⟨_, Go.WideMaps.keyOf_pair arrP Try.underlying3 ⟨Try.prog.types.size - 1, by have : 0 < Try.prog.types.size := of_decide_eq_true (by kernel_rfl); omega⟩ h.1 h.2⟩
theorem mapP : MapTy Try.prog 103 93 3 .i64 encP wfP where
  K := Go.Maps.Keyed.of_law (deep_law_laid laidOutP (m := 2) (by omega) (of_decide_eq_true (by kernel_rfl)) (by kernel_rfl) (by rw [Try.underlying93]))
  ht := Try.underlying103
  he := Try.underlying3
  hz := fun w => by kernel_rfl
  key := keyP
  inj := fun x y h => by
    unfold encP at h
    injection h with h
    have h1 := congrArg (fun z : Array Value => z[0]?) h
    have h2 := congrArg (fun z : Array Value => z[1]?) h
    simp at h1 h2
    exact Prod.ext h1 h2
theorem infoP : (Try.prog.info? 93).map (fun i => (i.zero, i.size, i.bytes)) = some (some (.agg #[.int .i64 0, .int .i64 0]), 2, 16) := by kernel_rfl
theorem cell_grown {w w' : World} {row : Option Nat} (hg : w.grownBy w' row) {a : Addr} (hlt : a.block < w.heap.size) (hne : some a.block ≠ row) {v : Value} (h : w.cell? a = some v) : w'.cell? a = some v := (World.cell?_of_block (hg.block _ hlt hne)).trans h
theorem at_pair {w : World} {A : Option Addr} {n : Nat} {xs : List Pr} (h : kdP.C w A n xs) (i : Nat) (hi : i < xs.length) (hn : n = xs.length) : ∃ ad, A = some ad ∧ w.cell? (ad.add (i * 2)) = some (.int .i64 xs[i].1) ∧ w.cell? ⟨(ad.add (i * 2)).block, (ad.add (i * 2)).off + 1, none⟩ = some (.int .i64 xs[i].2) := by
  obtain ⟨ad, c, hA, hl, hk, hc⟩ := Kd.C_get h (0, 0) (i : Int) (by omega) (by omega)
  rw [Int.toNat_natCast] at hk hc
  have e : xs.getD i (0, 0) = xs[i] := by rw [List.getD_eq_getElem?_getD, List.getElem?_eq_getElem hi]; rfl
  rw [e] at hk
  obtain ⟨c0, c1, rfl, h0, h1⟩ := hk
  have h0' : c0 = [.int .i64 xs[i].1] := h0
  have h1' : c1 = [.int .i64 xs[i].2] := h1
  subst h0'
  subst h1'
  have q0 := hc 0 _ rfl
  have q1 := hc 1 _ rfl
  refine ⟨ad, hA, q0, ?_⟩
  obtain ⟨b, o, sp⟩ := ad
  have hs : kdP.sz = 2 := rfl
  rw [hs] at q0 q1
  by_cases hi0 : i = 0
  · subst hi0
    have hsp : sp = none := by
      have := World.cell?_spot q0
      simpa [Addr.add] using this
    subst hsp
    simpa [Addr.add] using q1
  · have e1 : (⟨b, o, sp⟩ : Addr).add (i * 2) = ⟨b, o + i * 2, none⟩ := by simp [Addr.add] <;> omega
    have e2 : (⟨b, o, sp⟩ : Addr).add (i * 2 + 1) = ⟨b, o + i * 2 + 1, none⟩ := by simp [Addr.add] <;> omega
    rw [e1]
    rw [e2] at q1
    exact q1
abbrev IsMP (w : World) (b : Nat) (m : Pr → Option Int) (c : Nat) : Prop := MapIs Try.prog 93 3 .i64 encP wfP w b m c
/-- What the search keeps in memory. -/
structure MemP (w w' : World) (v6 v7 : Value) (gm : Nat) (p : St Pr) : Prop where
  list : Kd.R kdP 93 w' w.heap.size (fun _ => True) v6 p.1
  words : Kd.R Kd.string 9 w' w.heap.size (fun _ => True) v7 p.2
  map : IsMP w' gm (idx p.1) p.1.length
  bel : Below w.heap.size w w'
theorem MemP.below {w w' w2 : World} {v6 v7 : Value} {gm : Nat} {p : St Pr} (h : MemP w w' v6 v7 gm p) (hb : Below w'.heap.size w' w2) : MemP w w2 v6 v7 gm p :=
  ⟨Kd.R_below h.list hb, Kd.R_below h.words hb, h.map.below hb, below_then h.bel h.bel.size hb⟩
def T17p : Bool × List (List Nat × List Nat) := (true, [([], []), ([], []), ([], []), ([1, 2], [1, 2]), ([3], [3]), ([], []), ([], []), ([6], [6]), ([5, 7], [5, 7]), ([4, 8], [4, 8]), ([9], [9]), ([0, 10], [0, 10]), ([11, 11, 0, 1, 2, 3, 4, 5, 6, 7, 8, 9, 10, 11], [0, 1, 11])])
def B17p : List Nat := [0, 0, 0, 6, 14, 0, 0, 64, 224, 510, 1022, 2047, 4095]
theorem tab17p : rtab .any (opsOf Try.f102 17) = T17p := by kernel_rfl
theorem bits17p : waitsOk T17p.2 B17p = true := by kernel_rfl
set_option maxHeartbeats 4000000 in
set_option maxRecDepth 100000 in
theorem firstWord_pair {dom : Pr → Prop} (N : Nat) (hN : N ≤ 1000000) (good : Pr → Bool) (nx : Pr → Nat → Pr) (x0 : Pr) (g1 g2 : Nat) (lb1 lb2 : Array Value)
    (eg1 : ∀ args w, (callFunc g1 args).run Try.prog w = .ok (.enter g1 args) w) (eg2 : ∀ args w, (callFunc g2 args).run Try.prog w = .ok (.enter g2 args) w) (w : World)
    (hd0 : dom x0) (hdn : ∀ x j, dom x → j < 3 → dom (nx x j)) (hwf : ∀ x, dom x → wfP x) (hcard : ∀ s : List Pr, s.Nodup → (∀ x ∈ s, dom x) → s.length ≤ N)
    (h1 : ∀ x, dom x → ∀ W, Below w.heap.size w W → Calls Try.prog g1 (#[.agg #[.int .i64 (x).1, .int .i64 (x).2]] ++ lb1) W fun e W' => e = .returned (.bool (good x)) ∧ Below W.heap.size W W')
    (h2 : ∀ (x : Pr) (j : Nat), dom x → j < 3 → ∀ W, Below w.heap.size w W → Calls Try.prog g2 (#[.agg #[.int .i64 (x).1, .int .i64 (x).2], .int .i64 j] ++ lb2) W fun e W' => e = .returned (.agg #[.int .i64 (nx x j).1, .int .i64 (nx x j).2]) ∧ Below W.heap.size W W') :
    Calls Try.prog 102 #[.agg #[.int .i64 (x0).1, .int .i64 (x0).2], .func (.func g1) #[] lb1, .func (.func g2) #[] lb2] w fun e w' => e = .returned (.tuple #[.string (bfs good nx (N + 2) ([x0], [(⟨#[]⟩ : ByteArray)]) 0).1, .bool (bfs good nx (N + 2) ([x0], [(⟨#[]⟩ : ByteArray)]) 0).2]) ∧ Below w.heap.size w w' := by
  generalize hR : bfs good nx (N + 2) ([x0], [(⟨#[]⟩ : ByteArray)]) 0 = r
  have HR := Aside0.mk hR
  clear hR
  have H1 := Aside0.mk h1
  have H2 := Aside0.mk h2
  have HF := Aside0.mk (fit0 hd0 hcard)
  have HD := Aside0.mk hdn
  have HW := Aside0.mk hwf
  have HB := Aside0.mk (Below.refl w.heap.size w)
  have HX := Aside0.mk (hwf x0 hd0)
  clear h1 h2 hdn hcard hwf hd0
  have hu_ := Aside0.mk hN
  clear hN
  have HC0 : Aside0 (World.cell? (((w.alloc (Obj.cells #[Value.int IntKind.i64 x0.1, Value.int IntKind.i64 x0.2] 93)).alloc (Obj.cells #[Value.int IntKind.i64 x0.1, Value.int IntKind.i64 x0.2] 93)).alloc (Obj.cells #[Value.string ⟨#[]⟩] 9)) ⟨w.heap.size, 0, none⟩ = some (.int .i64 x0.1)) := ⟨pw_cell_below (below_alloc (below_alloc (Below.refl _ _) _) _) (by simp)⟩
  have HC1 : Aside0 (World.cell? (((w.alloc (Obj.cells #[Value.int IntKind.i64 x0.1, Value.int IntKind.i64 x0.2] 93)).alloc (Obj.cells #[Value.int IntKind.i64 x0.1, Value.int IntKind.i64 x0.2] 93)).alloc (Obj.cells #[Value.string ⟨#[]⟩] 9)) ⟨w.heap.size, 1, none⟩ = some (.int .i64 x0.2)) := ⟨pw_cell_below (below_alloc (below_alloc (Below.refl _ _) _) _) (by simp)⟩
  have HLW : Aside0 (Kd.R kdP 93 (((w.alloc (Obj.cells #[Value.int IntKind.i64 x0.1, Value.int IntKind.i64 x0.2] 93)).alloc (Obj.cells #[Value.int IntKind.i64 x0.1, Value.int IntKind.i64 x0.2] 93)).alloc (Obj.cells #[Value.string ⟨#[]⟩] 9)) w.heap.size (fun _ => True) (.slice (some ⟨w.heap.size + 1, 0, none⟩) 1 1) [x0]) := ⟨by
    have := R_here (okp := fun _ => True) (inner := [.int .i64 x0.1, .int .i64 x0.2]) kdP (w.alloc (Obj.cells #[Value.int IntKind.i64 x0.1, Value.int IntKind.i64 x0.2] 93)) w.heap.size 93 (xs := [x0]) (Reps.snoc (Reps.none _ _) (show Kd.M kdP _ _ _ x0 [.int .i64 x0.1, .int .i64 x0.2] from ⟨[.int .i64 x0.1], [.int .i64 x0.2], rfl, rfl, rfl⟩) rfl) (by simp) (by simp)
    have h2 := Kd.R_alloc this (Obj.cells #[Value.string ⟨#[]⟩] 9)
    simpa using h2⟩
  have HSW : Aside0 (Kd.R Kd.string 9 (((w.alloc (Obj.cells #[Value.int IntKind.i64 x0.1, Value.int IntKind.i64 x0.2] 93)).alloc (Obj.cells #[Value.int IntKind.i64 x0.1, Value.int IntKind.i64 x0.2] 93)).alloc (Obj.cells #[Value.string ⟨#[]⟩] 9)) w.heap.size (fun _ => True) (.slice (some ⟨w.heap.size + 1 + 1, 0, none⟩) 1 1) [(⟨#[]⟩ : ByteArray)]) := ⟨by
    have := R_here (okp := fun _ => True) (inner := [.string ⟨#[]⟩]) Kd.string ((w.alloc (Obj.cells #[Value.int IntKind.i64 x0.1, Value.int IntKind.i64 x0.2] 93)).alloc (Obj.cells #[Value.int IntKind.i64 x0.1, Value.int IntKind.i64 x0.2] 93)) w.heap.size 9 (xs := [(⟨#[]⟩ : ByteArray)]) (Reps.one (show Kd.M Kd.string _ _ _ (⟨#[]⟩ : ByteArray) [.string (⟨#[]⟩ : ByteArray)] from rfl) (Reps.none _ _)) (by simp; omega) (by simp)
    simpa using this⟩
  have HBW : Aside0 (Below w.heap.size w (((w.alloc (Obj.cells #[Value.int IntKind.i64 x0.1, Value.int IntKind.i64 x0.2] 93)).alloc (Obj.cells #[Value.int IntKind.i64 x0.1, Value.int IntKind.i64 x0.2] 93)).alloc (Obj.cells #[Value.string ⟨#[]⟩] 9))) := ⟨below_alloc (below_alloc (below_alloc (Below.refl w.heap.size w) _) _) _⟩
  have HSZ : Aside0 ((((w.alloc (Obj.cells #[Value.int IntKind.i64 x0.1, Value.int IntKind.i64 x0.2] 93)).alloc (Obj.cells #[Value.int IntKind.i64 x0.1, Value.int IntKind.i64 x0.2] 93)).alloc (Obj.cells #[Value.string ⟨#[]⟩] 9)).heap.size = w.heap.size + 1 + 1 + 1) := ⟨by simp⟩
  go_enter Try.func102, Try.ntmps102
  go_wp2_with (first
    | ((with_reducible refine gate_dst (N := 19) rfl ?_); refine wp_make (t := 103) (k := 93) (e := 3) (q := .i64) (enc := encP) (ok := wfP) rfl rfl ?_; intro w3 hm hb; have hm : IsMP w3 (w.heap.size + 1 + 1 + 1) (fun _ => none) 0 := HSZ.out ▸ hm; have hc0 := pw_cell_below hb HC0.out; have hc1 := pw_cell_below hb HC1.out; have HL := Aside0.mk (Kd.R_below HLW.out hb); have HS := Aside0.mk (Kd.R_below HSW.out hb); have HM := Aside0.mk hm; have HB3 := Aside0.mk (below_then HBW.out HBW.out.size hb); clear hm hb)
    | (refine wp_insert mapP rfl _ _ _ rfl _ _ _ HM.out (by unfold maxLen; omega) rfl x0 rfl HX.out 0 rfl (by decide) ?_; intro w4 hm hgr; have HM2 := Aside0.mk hm; have HG4 := Aside0.mk hgr; clear hm hgr))
  have hM0 : MemP w w4 (.slice (some ⟨w.heap.size + 1, 0, none⟩) 1 1) (.slice (some ⟨w.heap.size + 1 + 1, 0, none⟩) 1 1) (w.heap.size + 1 + 1 + 1) ([x0], [(⟨#[]⟩ : ByteArray)]) :=
    ⟨R_over_map HL.out HM.out HG4.out, R_over_map HS.out HM.out HG4.out, by have := HM2.out; rw [idx_one] at this; exact this, below_map HB3.out HG4.out (by omega)⟩
  have HMEM := Aside0.mk hM0
  have HGM : Aside0 (w.heap.size ≤ w.heap.size + 1 + 1 + 1) := ⟨by omega⟩
  clear HL HS HM HM2 HB3 HG4 hM0 HB HC0 HC1 HLW HSW HBW HSZ hc0 hc1
  generalize w.heap.size + 1 + 1 + 1 = gm at HMEM HGM ⊢
  go_loopg [8, 9, 11] (N + 2) (fun gg v8 v9 v11 wr => ∃ (p : St Pr) (i : Nat), v11 = .int .i64 (i : Int) ∧ Aside0 (i ≤ p.1.length) ∧ Aside0 (N + 2 ≤ gg + i) ∧ Aside0 (bfs good nx gg p i = r) ∧ Aside0 (Bf.Fit dom N p) ∧ Aside0 (MemP w wr v8 v9 gm p))
  case atStart => exact ⟨([x0], [(⟨#[]⟩ : ByteArray)]), 0, rfl, ⟨Nat.zero_le _⟩, ⟨by omega⟩, HR, HF, HMEM⟩
  case round =>
    clear HMEM HF HR
    obtain ⟨p, i, rfl, HI, HG, HR, HF, HMEM⟩ := hrel
    cases gk with
    | zero => exact absurd HF.out.le (by have := HI.out; have := HG.out; omega)
    | succ g =>
      obtain ⟨A8, c8, e8⟩ := Kd.R_slice HMEM.out.list
      subst e8
      obtain ⟨A9, c9, e9⟩ := Kd.R_slice HMEM.out.words
      subst e9
      by_cases hi : i < p.1.length
      · obtain ⟨ad8, ea8, hx8, hx8b⟩ := at_pair (Kd.R_reads' HMEM.out.list).2.2 i (by omega) rfl
        subst ea8
        have hl2 := HF.out.len
        obtain ⟨ad9, ea9, hx9⟩ := Kd.at_string (Kd.R_reads' HMEM.out.words).2.2 (i : Int) (by omega) (by omega)
        subst ea9
        rw [rdOf_get _ p.2 i (by omega), Int.toNat_natCast] at hx9
        have hr := HR.out
        rw [bfs, dif_pos hi] at hr
        have hdx := HF.out.all _ (List.getElem_mem hi)
        have hP1 : p.1[i]? = some p.1[i] := List.getElem?_eq_getElem hi
        have hP2 : p.2[i]? = some p.2[i] := List.getElem?_eq_getElem (by omega)
        have hsz : p.2[i].size ≤ i := by
          have := HF.out.size i
          rw [List.getD_eq_getElem?_getD, hP2] at this
          exact this
        have egd : p.2.getD i ByteArray.empty = p.2[i] := by rw [List.getD_eq_getElem?_getD, hP2]; rfl
        rw [egd] at hr
        generalize p.1[i] = x at hx8 hx8b hr hdx hP1
        generalize p.2[i] = wd at hx9 hr hP2 hsz
        have HC := Aside0.mk (H1.out x hdx)
        have HDX := Aside0.mk hdx
        have HP1 := Aside0.mk hP1
        have HP2 := Aside0.mk hP2
        have HSZ := Aside0.mk hsz
        have HL2 := Aside0.mk hl2
        clear hdx hP1 hP2 hsz egd hl2 HR
        have d1 : decide ((i : Int) < (p.1.length : Int)) = true := decide_eq_true (by omega)
        have p1 : ((0 : Int) ≤ (i : Int)) = True := eq_true (by omega)
        have q1 : ((i : Int) < (p.1.length : Int)) = True := eq_true (by omega)
        have q2 : ((i : Int) < (p.2.length : Int)) = True := eq_true (by have := HL2.out; omega)
        have HI2 := Aside0.mk hi
        clear hi
        cases hgd : good x with
        | true =>
          rw [hgd, if_pos rfl] at hr
          rw [hgd] at HC
          have HRR := Aside0.mk hr
          clear hr hgd
          go_wp2_with (go_at_fn g1; refine (HC.out _ (by exact HMEM.out.bel)).mono ?_; rintro e W1 ⟨rfl, hb⟩; have hx9 := (hb.cell (World.block_lt_of_cell? _ _ hx9)).trans hx9; have HB1 := Aside0.mk hb; clear hb)
          go_ret2
          have e1 := HRR.out
          subst e1
          exact ⟨rfl, below_then HMEM.out.bel HMEM.out.bel.size HB1.out⟩
        | false =>
          rw [hgd, if_neg (by decide)] at hr
          rw [hgd] at HC
          generalize hpf : ex nx x wd 3 0 p = pf at hr
          have HRR := Aside0.mk hr
          have HPF := Aside0.mk hpf
          clear hr hgd hpf
          go_wp2_with (go_at_fn g1; refine (HC.out _ (by exact HMEM.out.bel)).mono ?_; rintro e W1 ⟨rfl, hb⟩; have HM1 := Aside0.mk (HMEM.out.below hb); clear hb)
          clear HMEM HC hx8 hx8b hx9 q1 q2 d1
          go_loopg [8, 9, 38] 3 (fun gg v8 v9 v38 w2 => ∃ (p2 : St Pr) (j : Nat) (jz : Int), v38 = .int .i64 jz ∧ Aside0 (jz = (j : Int)) ∧ Aside0 (j ≤ 3) ∧ Aside0 (3 ≤ gg + j) ∧ Aside0 (ex nx x wd (3 - j) j p2 = pf) ∧ Aside0 (Bf.Fit dom N p2) ∧ Aside0 (p2.1[i]? = some x) ∧ Aside0 (p2.2[i]? = some wd) ∧ Aside0 (MemP w w2 v8 v9 gm p2))
          case atStart => exact ⟨p, 0, 0, rfl, ⟨rfl⟩, ⟨by omega⟩, ⟨by omega⟩, HPF, HF, HP1, HP2, HM1⟩
          case round =>
            clear HM1 HF HP1 HP2 HPF
            obtain ⟨p2, j, jz, rfl, HJZ, HJ, HGJ, HPF, HF, HP1, HP2, HMEM⟩ := hrel
            obtain ⟨A8, c8, e8⟩ := Kd.R_slice HMEM.out.list
            subst e8
            obtain ⟨A9, c9, e9⟩ := Kd.R_slice HMEM.out.words
            subst e9
            by_cases hj : j < 3
            · cases gk with
              | zero => exact absurd HGJ.out (by omega)
              | succ g3 =>
              have hl2 := HF.out.len
              have hi2 : i < p2.1.length := (List.getElem?_eq_some_iff.mp HP1.out).1
              have hx1 : p2.1[i] = x := (List.getElem?_eq_some_iff.mp HP1.out).2
              have hw1 : rdOf ByteArray.empty p2.2 i = wd := by rw [rdOf_get _ p2.2 i (by omega)]; exact (List.getElem?_eq_some_iff.mp HP2.out).2
              obtain ⟨ad8, ea8, hx8, hx8b⟩ := at_pair (Kd.R_reads' HMEM.out.list).2.2 i (by omega) rfl
              subst ea8
              rw [hx1] at hx8 hx8b
              have hle := HF.out.le
              have hc := H2.out x j HDX.out hj
              rw [← HJZ.out] at hc
              have HC := Aside0.mk hc
              clear hc
              have hdy := HD.out x j HDX.out hj
              have HWY := Aside0.mk (HW.out _ hdy)
              have hpf : ex nx x wd (3 - (j + 1)) (j + 1) (put (nx x j) (wd ++ pc j) p2) = pf := by
                have h0 := HPF.out
                rw [show 3 - j = (3 - (j + 1)) + 1 by omega, ex] at h0
                exact h0
              have hfit : Bf.Fit dom N (put (nx x j) (wd ++ pc j) p2) := fit_put HF.out hdy (by rw [ByteArray.size_append, size_pc j hj]; have := HSZ.out; omega)
              have q1 : ((i : Int) < (p2.1.length : Int)) = True := eq_true (by omega)
              have q2 : ((i : Int) < (p2.2.length : Int)) = True := eq_true (by omega)
              have hjz := HJZ.out
              have d1 : decide (jz < 3) = true := decide_eq_true (by omega)
              have HPF2 := Aside0.mk hpf
              have HFIT := Aside0.mk hfit
              have HJ3 := Aside0.mk hj
              have HI2 := Aside0.mk hi2
              have HLE := Aside0.mk hle
              have HL2 := Aside0.mk hl2
              have HW1 := Aside0.mk hw1
              have hsome := idx_some (s := p2.1) (y := nx x j)
              generalize hy : nx x j = y at HC hdy HWY hpf hfit HPF2 HFIT hsome
              have HY := Aside0.mk hy
              clear hpf hfit hdy hj hi2 hle hl2 hw1 hx1 hy HPF hjz
              by_cases hm : y ∈ p2.1
              · have ep : put y (wd ++ pc j) p2 = p2 := by unfold put; rw [if_pos hm]
                have HEP := Aside0.mk ep
                have hsome := idx_in hm
                clear ep
                go_wp2_with (first
                  | (go_at_fn g2; refine (HC.out _ (by exact HMEM.out.bel)).mono ?_; rintro e W1 ⟨rfl, hb⟩; have HM1 := Aside0.mk (HMEM.out.below hb); clear hb)
                  | ((with_reducible refine gate_dst (N := 51) rfl ?_); have HM2 := Aside0.mk (HM1.out.below (below_alloc (Below.refl _ _) (Obj.cells #[Value.int IntKind.i64 y.1, Value.int IntKind.i64 y.2] 93))); refine wp_look_ok mapP rfl _ _ rfl _ _ _ HM2.out.map rfl y rfl HWY.out ?_; rw [hsome]))
                go_roundg g3
                case measure => omega
                case rel => exact ⟨p2, j + 1, wrap64 (jz + 1), rfl, ⟨by rw [HJZ.out, up1 (by have := HJ3.out; omega)]⟩, ⟨HJ3.out⟩, ⟨by have := HGJ.out; omega⟩, ⟨by have h0 := HPF2.out; rw [HEP.out] at h0; exact h0⟩, HF, HP1, HP2, HM2⟩
              · have ep : put y (wd ++ pc j) p2 = (p2.1 ++ [y], p2.2 ++ [wd ++ pc j]) := by unfold put; rw [if_neg hm]
                have HPF3 := Aside0.mk (ep ▸ HPF2.out)
                have HFIT3 := Aside0.mk (ep ▸ HFIT.out)
                have hu := idx_upd hm
                have HU := Aside0.mk hu
                have hsome := idx_out hm
                have hjz := HJZ.out
                have hj3 := HJ3.out
                have ew : wrap64 (jz + 1) = jz + 1 := w64 (by omega) (by omega)
                have c2 : ((0 : Int) ≤ jz) = True := eq_true (by omega)
                have c3 : decide (jz ≤ wrap64 (jz + 1)) = true := decide_eq_true (by omega)
                have c3b := eq_true (of_decide_eq_true c3)
                have c4 : decide (wrap64 (jz + 1) ≤ 3) = true := decide_eq_true (by omega)
                have c4b := eq_true (of_decide_eq_true c4)
                have epc : (⟨#[97, 98, 99]⟩ : ByteArray).extract jz.toNat (wrap64 (jz + 1)).toNat = pc j := by rw [ew, hjz, pc]; congr 1
                have c5 : wd.size + ((⟨#[97, 98, 99]⟩ : ByteArray).extract jz.toNat (wrap64 (jz + 1)).toNat).size ≤ 9223372036854775807 := by rw [epc, size_pc j hj3]; have := HSZ.out; have := HI2.out; have := HLE.out; have := hu_.out; omega
                have c5a := eq_true c5
                have c5b : decide (wd.size + ((⟨#[97, 98, 99]⟩ : ByteArray).extract jz.toNat (wrap64 (jz + 1)).toNat).size ≤ 9223372036854775807) = true := decide_eq_true c5
                have c5c : (9223372036854775807 < wd.size + ((⟨#[97, 98, 99]⟩ : ByteArray).extract jz.toNat (wrap64 (jz + 1)).toNat).size) = False := eq_false (Nat.not_lt.2 c5)
                have c5d : (9223372036854775807 < wd.size + ((wrap64 (jz + 1)).toNat - jz.toNat)) = False := eq_false (by rw [ew, hjz]; have := HSZ.out; have := HI2.out; have := HLE.out; have := hu_.out; omega)
                have EPC := Aside0.mk epc
                have HLEN : Aside0 ((p2.1.length : Int) ≤ 1000000) := ⟨by have := HLE.out; have := hu_.out; omega⟩
                obtain ⟨ad9, ea9, hx9⟩ := Kd.at_string (Kd.R_reads' HMEM.out.words).2.2 (i : Int) (by omega) (by have := HL2.out; have := HI2.out; omega)
                subst ea9
                clear hx9 hm ep hu hjz hj3 ew epc c5 c3 c4
                go_wp2_with (first
                  | (go_at_fn g2; refine (HC.out _ (by exact HMEM.out.bel)).mono ?_; rintro e W1 ⟨rfl, hb⟩; have HM1 := Aside0.mk (HMEM.out.below hb); clear hb)
                  | ((with_reducible refine gate_dst (N := 51) rfl ?_); have HGN : Aside0 (gm ≠ W1.heap.size) := ⟨by have := HM1.out.map.lt; omega⟩; have HM2 := Aside0.mk (HM1.out.below (below_alloc (Below.refl _ _) (Obj.cells #[Value.int IntKind.i64 y.1, Value.int IntKind.i64 y.2] 93))); refine wp_look_ok mapP rfl _ _ rfl _ _ _ HM2.out.map rfl y rfl HWY.out ?_; rw [hsome])
                  | (at_builtin; refine Kd.R_append kdP (w0 := w) w.heap.size rfl (.tmp 60) (.tmp 62) 102 93 (.agg #[.int .i64 0, .int .i64 0]) 16 rfl Try.underlying102 infoP rfl (by decide) (by omega) (.slice (some ad8) p2.1.length c8) p2.1 y [.int .i64 y.1, .int .i64 y.2] (fun _ => True) (fun _ => False) rfl rfl ?aP (fun _ hk => hk.elim) ?aF ?aO ?aB ?aS ?aL ?_; (case aP => exact ⟨[.int .i64 y.1], [.int .i64 y.2], rfl, rfl, rfl⟩); (case aF => exact (fun _ _ => trivial)); (case aO => exact HL3.out); (case aB => exact HB3.out); (case aS => exact HB3.out.size); (case aL => have := HLEN.out; omega); intro v8n w3 ho hb hg hat; have HS4 := Aside0.mk (Kd.R_over' HS3.out (Kd.R_typed HL3.out) (by decide) hg); have HL4 := Aside0.mk ho; have HB4 := Aside0.mk hb; have HM4 := Aside0.mk (HM3.out.kept hg (HM3.out.not_row (Kd.R_typed HL3.out))); clear ho hb hg hat)
                  | (refine wp_update mapP rfl _ _ _ rfl _ _ _ HM2.out.map (by have := HLEN.out; unfold maxLen; omega) rfl y rfl HWY.out (p2.1.length : Int) rfl (by have := HLEN.out; simp [Lit.wf, IntKind.min, IntKind.max, IntKind.signed, IntKind.bits]; omega) ?_; intro w2 hm hgr; rw [HU.out, if_neg (by rw [hsome]; decide)] at hm; have hcy0 := cell_grown hgr (a := ⟨W1.heap.size, 0, none⟩) (by simp) (fun h_ => HGN.out (Option.some.inj h_).symm) (v := .int .i64 y.1) (by simp); have hcy1 := cell_grown hgr (a := ⟨W1.heap.size, 1, none⟩) (by simp) (fun h_ => HGN.out (Option.some.inj h_).symm) (v := .int .i64 y.2) (by simp); have HL3 := Aside0.mk (R_over_map HM2.out.list HM2.out.map hgr); have HS3 := Aside0.mk (R_over_map HM2.out.words HM2.out.map hgr); have HB3 := Aside0.mk (below_map HM2.out.bel hgr HGM.out); have HM3 := Aside0.mk hm; clear hm hgr))
                have HS5 := Aside0.mk (Kd.R_drew HS4.out)
                have HL5 := Aside0.mk (Kd.R_drew HL4.out)
                have HB5 := Aside0.mk (below_drew1 HB4.out)
                have HM5 := Aside0.mk (HM4.out.below (below_drew1 (Below.refl _ _)))
                clear HS4 HL4 HB4 HM4 HL3 HS3 HB3 HM3 HM1 HM2
                obtain ⟨ad9', ea9, hx9⟩ := Kd.at_string (Kd.R_reads' HS5.out).2.2 (i : Int) (by omega) (by have := HL2.out; have := HI2.out; omega)
                cases ea9
                rw [HW1.out, Int.toNat_natCast] at hx9
                refine start_ (n := 13) (S := (fun w' => w'.cell? (ad9.add i) = some (.string wd))) (ds := [10, 11]) #[false, false, false, false, false, false, false, false, false, false, false, false, false] (by kernel_rfl) rfl rfl (hx9) (fun hHeld => ?_); refine with_tabW tab17p bits17p (fun HT_ HW_ => ?_)
                generalize w3.drew = w4 at HS5 HL5 HB5 HM5 hx9 hHeld ⊢
                refine pure_ (i := 0) (N := some 64) (v := ?_) (a' := ?_) #[true, false, false, false, false, false, false, false, false, false, false, false, false] rfl rfl (any_of HT_.out (by kernel_rfl)) (fun _ _ _ h => h) (Or.inl ⟨by rfl, ?_⟩) ?_ ?_
                rotate_left
                · intro w'
                  go_simp
                  with_reducible rfl
                rotate_left
                · simp only [Act.put, List.setIfInBounds_toArray, List.set_cons_zero, List.set_cons_succ, i64_w, i32_w]
                  rfl
                refine pure_ (i := 1) (N := some 65) (v := ?_) (a' := ?_) #[true, true, false, false, false, false, false, false, false, false, false, false, false] rfl rfl (any_of HT_.out (by kernel_rfl)) (fun _ _ _ h => h) (Or.inl ⟨by rfl, ?_⟩) ?_ ?_
                rotate_left
                · intro w'
                  go_simp
                  with_reducible rfl
                rotate_left
                · simp only [Act.put, List.setIfInBounds_toArray, List.set_cons_zero, List.set_cons_succ, i64_w, i32_w]
                  rfl
                refine pure_ (i := 2) (N := some 66) (v := ?_) (a' := ?_) #[true, true, true, false, false, false, false, false, false, false, false, false, false] rfl rfl (any_of HT_.out (by kernel_rfl)) (fun _ _ _ h => h) (Or.inl ⟨by rfl, ?_⟩) ?_ ?_
                rotate_left
                · intro w'
                  go_simp
                  with_reducible rfl
                rotate_left
                · simp only [Act.put, List.setIfInBounds_toArray, List.set_cons_zero, List.set_cons_succ, i64_w, i32_w]
                  rfl
                refine pure_ (i := 3) (N := some 67) (v := ?_) (a' := ?_) #[true, true, true, true, false, false, false, false, false, false, false, false, false] rfl rfl (any_of HT_.out (by kernel_rfl)) (fun _ _ _ h => h) (Or.inl ⟨by rfl, ?_⟩) ?_ ?_
                rotate_left
                · intro w'
                  go_simp
                  with_reducible rfl
                rotate_left
                · simp only [Act.put, List.setIfInBounds_toArray, List.set_cons_zero, List.set_cons_succ, i64_w, i32_w]
                  rfl
                refine pure_ (i := 5) (N := some 69) (v := ?_) (a' := ?_) #[true, true, true, true, false, true, false, false, false, false, false, false, false] rfl rfl (any_of HT_.out (by kernel_rfl)) (fun _ _ _ h => h) (Or.inl ⟨by rfl, ?_⟩) ?_ ?_
                rotate_left
                · intro w'
                  go_simp
                  with_reducible rfl
                rotate_left
                · simp only [Act.put, List.setIfInBounds_toArray, List.set_cons_zero, List.set_cons_succ, i64_w, i32_w]
                  rfl
                refine pure_ (i := 6) (N := some 70) (v := ?_) (a' := ?_) #[true, true, true, true, false, true, true, false, false, false, false, false, false] rfl rfl (any_of HT_.out (by kernel_rfl)) (fun _ _ _ h => h) (Or.inl ⟨by rfl, ?_⟩) ?_ ?_
                rotate_left
                · intro w'
                  go_simp
                  with_reducible rfl
                rotate_left
                · simp only [Act.put, List.setIfInBounds_toArray, List.set_cons_zero, List.set_cons_succ, i64_w, i32_w]
                  rfl
                refine pure_ (i := 7) (N := some 71) (v := ?_) (a' := ?_) #[true, true, true, true, false, true, true, true, false, false, false, false, false] rfl rfl (any_of HT_.out (by kernel_rfl)) (fun _ _ _ h => h) (Or.inl ⟨by rfl, ?_⟩) ?_ ?_
                rotate_left
                · intro w'
                  go_simp
                  with_reducible rfl
                rotate_left
                · simp only [Act.put, List.setIfInBounds_toArray, List.set_cons_zero, List.set_cons_succ, i64_w, i32_w]
                  rfl
                refine pure_ (i := 8) (N := some 72) (v := ?_) (a' := ?_) #[true, true, true, true, false, true, true, true, true, false, false, false, false] rfl rfl (any_of HT_.out (by kernel_rfl)) (fun _ _ _ h => h) (Or.inl ⟨by rfl, ?_⟩) ?_ ?_
                rotate_left
                · intro w'
                  go_simp
                  with_reducible rfl
                rotate_left
                · simp only [Act.put, List.setIfInBounds_toArray, List.set_cons_zero, List.set_cons_succ, i64_w, i32_w]
                  rfl
                refine take_ (i := 4) (N := some 68) (v := ?_) (a' := ?_) #[true, true, true, true, true, true, true, true, true, false, false, false, false] rfl rfl (take_ofW HT_.out HW_.out (by kernel_rfl)) (fun _ _ _ h => h) (Or.inl ⟨by rfl, ?_⟩) hHeld ?_ ?_
                rotate_left
                · intro w' s0
                  go_simp
                  with_reducible rfl
                rotate_left
                · simp only [Act.put, List.setIfInBounds_toArray, List.set_cons_zero, List.set_cons_succ, i64_w, i32_w]
                  rfl
                refine pure_ (i := 9) (N := some 73) (v := ?_) (a' := ?_) #[true, true, true, true, true, true, true, true, true, true, false, false, false] rfl rfl (any_of HT_.out (by kernel_rfl)) (fun _ _ _ h => h) (Or.inl ⟨by rfl, ?_⟩) ?_ ?_
                rotate_left
                · intro w'
                  go_simp
                  with_reducible rfl
                rotate_left
                · simp only [Act.put, List.setIfInBounds_toArray, List.set_cons_zero, List.set_cons_succ, i64_w, i32_w]
                  rfl
                refine last_ (i := 10) (N := some 74) #[true, true, true, true, true, true, true, true, true, true, true, false, false] rfl rfl (one_of HT_.out (by kernel_rfl)) (by decide) (fun K hK => ?_)
                refine value_ (w1 := ?_) (v := ?_) (by rfl) rfl ?_ ?_
                rotate_left 2
                · go_simp
                  constructor
                  · rfl
                  · rfl
                refine hK.out _ _ ?_
                clear hK K
                refine norm_ (a' := ?_) ?_ ?_
                rotate_left
                · show Act.put _ (some 74) _ = _
                  simp only [Act.put, List.setIfInBounds_toArray, List.set_cons_zero, List.set_cons_succ, i64_w, i32_w]
                  rfl
                refine last_ (i := 11) (N := some 75) #[true, true, true, true, true, true, true, true, true, true, true, true, false] rfl rfl (one_of HT_.out (by kernel_rfl)) (by decide) (fun K hK => ?_)
                refine Kd.R_append_step Kd.string (w0 := w) w.heap.size (by rfl) (.tmp 64) (.tmp 74) 47 9 (.string ⟨#[]⟩) 16 rfl Try.underlying47 info9 rfl (by decide) (by omega) (.slice (some ad9) p2.2.length c9) p2.2 (wd ++ ((⟨#[97, 98, 99]⟩ : ByteArray).extract jz.toNat (wrap64 (jz + 1)).toNat)) [.string (wd ++ ((⟨#[97, 98, 99]⟩ : ByteArray).extract jz.toNat (wrap64 (jz + 1)).toNat))] (fun _ => True) (fun _ => False) rfl rfl ?aP (fun _ hk => hk.elim) ?aF ?aO ?aB ?aS ?aL ?_
                (case aP => exact rfl)
                (case aF => exact (fun _ _ => trivial))
                (case aO => exact HS5.out)
                (case aB => exact HB5.out)
                (case aS => exact HB5.out.size)
                (case aL => have := HLEN.out; have := HL2.out; omega)
                intro v9n w5 ho hb hg hat
                rw [EPC.out] at ho
                have HMN : Aside0 (MemP w w5 v8n v9n gm (p2.1 ++ [y], p2.2 ++ [wd ++ pc j])) := ⟨⟨Kd.R_over' HL5.out (Kd.R_typed HS5.out) (by decide) hg, ho, by have h0 := HM5.out.kept hg (HM5.out.not_row (Kd.R_typed HS5.out)); rw [List.length_append]; exact h0, hb⟩⟩
                clear ho hb hg hat HS5 HL5 HB5 HM5
                refine hK.out _ _ ?_
                clear hK K
                refine norm_ (a' := ?_) ?_ ?_
                rotate_left
                · show Act.put _ (some 75) _ = _
                  simp only [Act.put, List.setIfInBounds_toArray, List.set_cons_zero, List.set_cons_succ, i64_w, i32_w]
                  rfl
                refine pure_ (i := 12) (N := some 9) (v := ?_) (a' := ?_) #[true, true, true, true, true, true, true, true, true, true, true, true, true] rfl rfl (any_of HT_.out (by kernel_rfl)) (fun _ _ _ h => h) (Or.inl ⟨by rfl, ?_⟩) ?_ ?_
                rotate_left
                · intro w'
                  go_simp
                  with_reducible rfl
                rotate_left
                · simp only [Act.put, List.setIfInBounds_toArray, List.set_cons_zero, List.set_cons_succ, i64_w, i32_w]
                  rfl
                refine done_ (done_of HT_.out (by kernel_rfl)) ?_
                go_wp2
                go_roundg g3
                case measure => omega
                case rel => exact ⟨(p2.1 ++ [y], p2.2 ++ [wd ++ pc j]), j + 1, wrap64 (jz + 1), rfl, ⟨by rw [HJZ.out, up1 (by have := HJ3.out; omega)]⟩, ⟨HJ3.out⟩, ⟨by have := HGJ.out; omega⟩, HPF3, HFIT3, ⟨by rw [List.getElem?_append_left HI2.out]; exact HP1.out⟩, ⟨by rw [List.getElem?_append_left (by have := HL2.out; have := HI2.out; omega)]; exact HP2.out⟩, HMN⟩
            · have ej : j = 3 := by have := HJ.out; omega
              subst ej
              have ejz := HJZ.out
              subst ejz
              have d3 : decide (((3 : Nat) : Int) < 3) = false := by decide
              go_wp2
              go_roundg g
              case measure => omega
              case rel => exact ⟨p2, i + 1, by rw [up1 (by have := (List.getElem?_eq_some_iff.mp HP1.out).1; have := HF.out.le; have := hu_.out; omega)], ⟨(List.getElem?_eq_some_iff.mp HP1.out).1⟩, ⟨by have := HG.out; omega⟩, ⟨by have h0 := HPF.out; rw [show 3 - 3 = 0 from rfl, ex] at h0; rw [h0]; exact HRR.out⟩, HF, HMEM⟩
      · have hr := HR.out
        rw [bfs, dif_neg hi] at hr
        subst hr
        have d1 : decide ((i : Int) < (p.1.length : Int)) = false := decide_eq_false (by omega)
        go_wp2
        go_ret2
        exact ⟨rfl, HMEM.out.bel⟩
end Go.Proofs.Ytoknogcefajfiaa.Wk
