/- The walk of firstWord at int. No condition. -/
import Derived.Shelf.Abstract
import Derived.Lib.Walk
import Derived.Test.YtoknogcefajfiaaBf
import Derived.Test.YtoknogcefajfiaaP0
namespace Go.Proofs.Ytoknogcefajfiaa.Wk
open Go.RowKit Go.Shelf Go.Proofs.Ytoknogcefajfiaa.P Go.Proofs.Ytoknogcefajfiaa.Pl Go.Proofs.Ytoknogcefajfiaa.Mp Go.Proofs.Ytoknogcefajfiaa.Bf Go.Proofs.YtoknogcefajfiaaW.PrintWords Go.Proofs.YtoknogcefajfiaaW.PrintLast Go.Proofs.YtoknogcefajfiaaW.PrintMore
set_option linter.unusedVariables false
set_option linter.unusedSimpArgs false

abbrev wfI (x : Int) : Prop := (Lit.int .i64 x).wf = true
theorem mapInt : MapTy Try.prog 91 3 3 .i64 (Value.int .i64) wfI := int_ty Try.prog Try.underlying91 Try.underlying3 Try.underlying3 (fun w => by kernel_rfl)
abbrev IsM (w : World) (b : Nat) (m : Int → Option Int) (c : Nat) : Prop := MapIs Try.prog 3 3 .i64 (Value.int .i64) wfI w b m c
/-- What the search keeps in memory. -/
structure Mem (w w' : World) (v6 v7 : Value) (gm : Nat) (p : St Int) : Prop where
  list : Kd.R (Kd.int .i64) 3 w' w.heap.size (fun _ => True) v6 p.1
  words : Kd.R Kd.string 9 w' w.heap.size (fun _ => True) v7 p.2
  map : IsM w' gm (idx p.1) p.1.length
  bel : Below w.heap.size w w'
theorem Mem.below {w w' w2 : World} {v6 v7 : Value} {gm : Nat} {p : St Int} (h : Mem w w' v6 v7 gm p) (hb : Below w'.heap.size w' w2) : Mem w w2 v6 v7 gm p :=
  ⟨Kd.R_below h.list hb, Kd.R_below h.words hb, h.map.below hb, below_then h.bel h.bel.size hb⟩

def T17 : Bool × List (List Nat × List Nat) := (true, [([], []), ([], []), ([], []), ([1, 2], [1, 2]), ([3], [3]), ([], []), ([], []), ([6], [6]), ([5, 7], [5, 7]), ([4, 8], [4, 8]), ([9], [9]), ([0, 10], [0, 10]), ([11, 11, 0, 1, 2, 3, 4, 5, 6, 7, 8, 9, 10, 11], [0, 1, 11])])
def B17 : List Nat := [0, 0, 0, 6, 14, 0, 0, 64, 224, 510, 1022, 2047, 4095]
theorem tab17 : rtab .any (opsOf Try.f71 17) = T17 := by kernel_rfl
theorem bits17 : waitsOk T17.2 B17 = true := by kernel_rfl
set_option maxHeartbeats 4000000 in
set_option maxRecDepth 100000 in
theorem firstWord_int {dom : Int → Prop} (N : Nat) (hN : N ≤ 1000000) (good : Int → Bool) (nx : Int → Nat → Int) (x0 : Int) (g1 g2 : Nat) (lb1 lb2 : Array Value)
    (eg1 : ∀ args w, (callFunc g1 args).run Try.prog w = .ok (.enter g1 args) w) (eg2 : ∀ args w, (callFunc g2 args).run Try.prog w = .ok (.enter g2 args) w) (w : World)
    (hd0 : dom x0) (hdn : ∀ x j, dom x → j < 3 → dom (nx x j)) (hwf : ∀ x, dom x → wfI x) (hcard : ∀ s : List Int, s.Nodup → (∀ x ∈ s, dom x) → s.length ≤ N)
    (h1 : ∀ x, dom x → ∀ W, Below w.heap.size w W → Calls Try.prog g1 (#[.int .i64 x] ++ lb1) W fun e W' => e = .returned (.bool (good x)) ∧ Below W.heap.size W W')
    (h2 : ∀ (x : Int) (j : Nat), dom x → j < 3 → ∀ W, Below w.heap.size w W → Calls Try.prog g2 (#[.int .i64 x, .int .i64 j] ++ lb2) W fun e W' => e = .returned (.int .i64 (nx x j)) ∧ Below W.heap.size W W') :
    Calls Try.prog 71 #[.int .i64 x0, .func (.func g1) #[] lb1, .func (.func g2) #[] lb2] w fun e w' => e = .returned (.tuple #[.string (bfs good nx (N + 2) ([x0], [(⟨#[]⟩ : ByteArray)]) 0).1, .bool (bfs good nx (N + 2) ([x0], [(⟨#[]⟩ : ByteArray)]) 0).2]) ∧ Below w.heap.size w w' := by
  generalize hR : bfs good nx (N + 2) ([x0], [(⟨#[]⟩ : ByteArray)]) 0 = r
  have HR := Aside0.mk hR
  clear hR
  have H1 := Aside0.mk h1
  have H2 := Aside0.mk h2
  have HF := Aside0.mk (fit0 hd0 hcard)
  have HD := Aside0.mk hdn
  have HW := Aside0.mk hwf
  have HB := Aside0.mk (Below.refl w.heap.size w)
  have HX := Aside0.mk (hwf x0 hd0)
  clear h1 h2 hdn hcard hwf hd0
  have hu_ := Aside0.mk hN
  clear hN
  go_enter Try.func71, Try.ntmps71
  go_wp2_with (first
    | ((with_reducible refine gate_dst (N := 17) rfl ?_); refine Kd.R_lit (Kd.int .i64) _ 3 ?hg (N := 17) ?hd (xs := [x0]) (inner := [.int .i64 x0]) (ok := fun _ => True) (okp := fun _ => True) ?hr ?hp (fun _ hk => hk) trivial (Below.refl _ _) (Nat.le_refl _) (by simp) ?_; (case hd => rfl); (case hg => rfl); (case hr => first | (go_simp; done) | (go_simp; rfl)); (case hp => exact (Reps.one (show Kd.M (Kd.int .i64) _ _ _ x0 [.int .i64 x0] from rfl) (Reps.none _ _))); intro v6 w1 ho hb hg_ hnew_; clear hg_ hnew_; have HL := Aside0.mk ho; have HB1 := Aside0.mk hb; clear ho hb)
    | ((with_reducible refine gate_dst (N := 18) rfl ?_); refine Kd.R_lit Kd.string _ 9 ?hg (N := 18) ?hd (xs := [(⟨#[]⟩ : ByteArray)]) (inner := [.string (⟨#[]⟩ : ByteArray)]) (ok := fun _ => True) (okp := fun _ => True) ?hr ?hp (fun _ hk => hk) trivial (Below.refl _ _) (Nat.le_refl _) (by simp) ?_; (case hd => rfl); (case hg => rfl); (case hr => first | (go_simp; done) | (go_simp; rfl)); (case hp => exact (Reps.one (show Kd.M Kd.string _ _ _ (⟨#[]⟩ : ByteArray) [.string (⟨#[]⟩ : ByteArray)] from rfl) (Reps.none _ _))); intro v7 w2 ho hb hg_ hnew_; clear hg_ hnew_; have HS := Aside0.mk ho; have HB2 := Aside0.mk hb; clear ho hb)
    | ((with_reducible refine gate_dst (N := 19) rfl ?_); refine wp_make (t := 91) (k := 3) (e := 3) (q := .i64) (enc := Value.int .i64) (ok := wfI) rfl rfl ?_; intro w3 hm hb; have HM := Aside0.mk hm; have HB3 := Aside0.mk hb; clear hm hb)
    | (refine wp_insert mapInt rfl _ _ _ rfl _ _ _ HM.out (by unfold maxLen; omega) rfl x0 rfl HX.out 0 rfl (by decide) ?_; intro w4 hm hgr; have HM2 := Aside0.mk hm; have HG4 := Aside0.mk hgr; clear hm hgr))
  have hgm : w.heap.size ≤ w2.heap.size := Nat.le_trans HB1.out.size HB2.out.size
  have hM0 : Mem w w4 v6 v7 w2.heap.size ([x0], [(⟨#[]⟩ : ByteArray)]) := by
    have b2 := below_then HB1.out HB1.out.size HB2.out
    have b3 := below_then b2 b2.size HB3.out
    exact ⟨R_over_map (Kd.R_below (Kd.R_below HL.out HB2.out) HB3.out) HM.out HG4.out, R_over_map (Kd.R_lower (Kd.R_below HS.out HB3.out) HB1.out.size) HM.out HG4.out, by have := HM2.out; rw [idx_one] at this; exact this, below_map b3 HG4.out hgm⟩
  have HGM := Aside0.mk hgm
  have HMEM := Aside0.mk hM0
  clear HL HS HM HM2 HB1 HB2 HB3 HG4 hM0 HB
  generalize w2.heap.size = gm at HMEM HGM ⊢
  clear hgm
  go_loopg [8, 9, 11] (N + 2) (fun gg v8 v9 v11 wr => ∃ (p : St Int) (i : Nat), v11 = .int .i64 (i : Int) ∧ Aside0 (i ≤ p.1.length) ∧ Aside0 (N + 2 ≤ gg + i) ∧ Aside0 (bfs good nx gg p i = r) ∧ Aside0 (Bf.Fit dom N p) ∧ Aside0 (Mem w wr v8 v9 gm p))
  case atStart => exact ⟨([x0], [(⟨#[]⟩ : ByteArray)]), 0, rfl, ⟨Nat.zero_le _⟩, ⟨by omega⟩, HR, HF, HMEM⟩
  case round =>
    clear HMEM HF HR
    obtain ⟨p, i, rfl, HI, HG, HR, HF, HMEM⟩ := hrel
    cases gk with
    | zero => exact absurd HF.out.le (by have := HI.out; have := HG.out; omega)
    | succ g =>
      obtain ⟨A8, c8, e8⟩ := Kd.R_slice HMEM.out.list
      subst e8
      obtain ⟨A9, c9, e9⟩ := Kd.R_slice HMEM.out.words
      subst e9
      by_cases hi : i < p.1.length
      · obtain ⟨ad8, ea8, hx8⟩ := Kd.at_int (Kd.R_reads' HMEM.out.list).2.2 (i : Int) (by omega) (by omega)
        subst ea8
        have hl2 := HF.out.len
        obtain ⟨ad9, ea9, hx9⟩ := Kd.at_string (Kd.R_reads' HMEM.out.words).2.2 (i : Int) (by omega) (by omega)
        subst ea9
        rw [rd_get p.1 i hi, Int.toNat_natCast] at hx8
        rw [rdOf_get _ p.2 i (by omega), Int.toNat_natCast] at hx9
        have hr := HR.out
        rw [bfs, dif_pos hi] at hr
        have hdx := HF.out.all _ (List.getElem_mem hi)
        have hP1 : p.1[i]? = some p.1[i] := List.getElem?_eq_getElem hi
        have hP2 : p.2[i]? = some p.2[i] := List.getElem?_eq_getElem (by omega)
        have hsz : p.2[i].size ≤ i := by
          have := HF.out.size i
          rw [List.getD_eq_getElem?_getD, hP2] at this
          exact this
        have egd : p.2.getD i ByteArray.empty = p.2[i] := by rw [List.getD_eq_getElem?_getD, hP2]; rfl
        rw [egd] at hr
        generalize p.1[i] = x at hx8 hr hdx hP1
        generalize p.2[i] = wd at hx9 hr hP2 hsz
        have HC := Aside0.mk (H1.out x hdx)
        have HDX := Aside0.mk hdx
        have HP1 := Aside0.mk hP1
        have HP2 := Aside0.mk hP2
        have HSZ := Aside0.mk hsz
        have HL2 := Aside0.mk hl2
        clear hdx hP1 hP2 hsz egd hl2 HR
        have d1 : decide ((i : Int) < (p.1.length : Int)) = true := decide_eq_true (by omega)
        have p1 : ((0 : Int) ≤ (i : Int)) = True := eq_true (by omega)
        have q1 : ((i : Int) < (p.1.length : Int)) = True := eq_true (by omega)
        have q2 : ((i : Int) < (p.2.length : Int)) = True := eq_true (by have := HL2.out; omega)
        have HI2 := Aside0.mk hi
        clear hi
        cases hgd : good x with
        | true =>
          rw [hgd, if_pos rfl] at hr
          rw [hgd] at HC
          have HRR := Aside0.mk hr
          clear hr hgd
          go_wp2_with (go_at_fn g1; refine (HC.out _ (by exact HMEM.out.bel)).mono ?_; rintro e W1 ⟨rfl, hb⟩; have hx9 := (hb.cell (World.block_lt_of_cell? _ _ hx9)).trans hx9; have HB1 := Aside0.mk hb; clear hb)
          go_ret2
          have e1 := HRR.out
          subst e1
          exact ⟨rfl, below_then HMEM.out.bel HMEM.out.bel.size HB1.out⟩
        | false =>
          rw [hgd, if_neg (by decide)] at hr
          rw [hgd] at HC
          generalize hpf : ex nx x wd 3 0 p = pf at hr
          have HRR := Aside0.mk hr
          have HPF := Aside0.mk hpf
          clear hr hgd hpf
          go_wp2_with (go_at_fn g1; refine (HC.out _ (by exact HMEM.out.bel)).mono ?_; rintro e W1 ⟨rfl, hb⟩; have HM1 := Aside0.mk (HMEM.out.below hb); clear hb)
          clear HMEM HC hx8 hx9 q1 q2 d1
          go_loopg [8, 9, 38] 3 (fun gg v8 v9 v38 w2 => ∃ (p2 : St Int) (j : Nat) (jz : Int), v38 = .int .i64 jz ∧ Aside0 (jz = (j : Int)) ∧ Aside0 (j ≤ 3) ∧ Aside0 (3 ≤ gg + j) ∧ Aside0 (ex nx x wd (3 - j) j p2 = pf) ∧ Aside0 (Bf.Fit dom N p2) ∧ Aside0 (p2.1[i]? = some x) ∧ Aside0 (p2.2[i]? = some wd) ∧ Aside0 (Mem w w2 v8 v9 gm p2))
          case atStart => exact ⟨p, 0, 0, rfl, ⟨rfl⟩, ⟨by omega⟩, ⟨by omega⟩, HPF, HF, HP1, HP2, HM1⟩
          case round =>
            clear HM1 HF HP1 HP2 HPF
            obtain ⟨p2, j, jz, rfl, HJZ, HJ, HGJ, HPF, HF, HP1, HP2, HMEM⟩ := hrel
            obtain ⟨A8, c8, e8⟩ := Kd.R_slice HMEM.out.list
            subst e8
            obtain ⟨A9, c9, e9⟩ := Kd.R_slice HMEM.out.words
            subst e9
            by_cases hj : j < 3
            · cases gk with
              | zero => exact absurd HGJ.out (by omega)
              | succ g3 =>
              have hl2 := HF.out.len
              have hi2 : i < p2.1.length := (List.getElem?_eq_some_iff.mp HP1.out).1
              have hx1 : rd p2.1 i = x := by rw [rd_get p2.1 i hi2]; exact (List.getElem?_eq_some_iff.mp HP1.out).2
              have hw1 : rdOf ByteArray.empty p2.2 i = wd := by rw [rdOf_get _ p2.2 i (by omega)]; exact (List.getElem?_eq_some_iff.mp HP2.out).2
              obtain ⟨ad8, ea8, hx8⟩ := Kd.at_int (Kd.R_reads' HMEM.out.list).2.2 (i : Int) (by omega) (by omega)
              subst ea8
              rw [hx1, Int.toNat_natCast] at hx8
              have hle := HF.out.le
              have hc := H2.out x j HDX.out hj
              rw [← HJZ.out] at hc
              have HC := Aside0.mk hc
              clear hc
              have hdy := HD.out x j HDX.out hj
              have HWY := Aside0.mk (HW.out _ hdy)
              have hpf : ex nx x wd (3 - (j + 1)) (j + 1) (put (nx x j) (wd ++ pc j) p2) = pf := by
                have h0 := HPF.out
                rw [show 3 - j = (3 - (j + 1)) + 1 by omega, ex] at h0
                exact h0
              have hfit : Bf.Fit dom N (put (nx x j) (wd ++ pc j) p2) := fit_put HF.out hdy (by rw [ByteArray.size_append, size_pc j hj]; have := HSZ.out; omega)
              have q1 : ((i : Int) < (p2.1.length : Int)) = True := eq_true (by omega)
              have q2 : ((i : Int) < (p2.2.length : Int)) = True := eq_true (by omega)
              have hjz := HJZ.out
              have d1 : decide (jz < 3) = true := decide_eq_true (by omega)
              have HPF2 := Aside0.mk hpf
              have HFIT := Aside0.mk hfit
              have HJ3 := Aside0.mk hj
              have HI2 := Aside0.mk hi2
              have HLE := Aside0.mk hle
              have HL2 := Aside0.mk hl2
              have HW1 := Aside0.mk hw1
              have hsome := idx_some (s := p2.1) (y := nx x j)
              generalize hy : nx x j = y at HC hdy HWY hpf hfit HPF2 HFIT hsome
              have HY := Aside0.mk hy
              clear hpf hfit hdy hj hi2 hle hl2 hw1 hx1 hy HPF hjz
              by_cases hm : y ∈ p2.1
              · have ep : put y (wd ++ pc j) p2 = p2 := by unfold put; rw [if_pos hm]
                have HEP := Aside0.mk ep
                rw [decide_eq_true hm] at hsome
                clear ep
                go_wp2_with (first
                  | (go_at_fn g2; refine (HC.out _ (by exact HMEM.out.bel)).mono ?_; rintro e W1 ⟨rfl, hb⟩; have HM1 := Aside0.mk (HMEM.out.below hb); clear hb)
                  | ((with_reducible refine gate_dst (N := 51) rfl ?_); refine wp_look_ok mapInt rfl _ _ rfl _ _ _ HM1.out.map rfl y rfl HWY.out ?_; rw [hsome]))
                go_roundg g3
                case measure => omega
                case rel => exact ⟨p2, j + 1, wrap64 (jz + 1), rfl, ⟨by rw [HJZ.out, up1 (by have := HJ3.out; omega)]⟩, ⟨HJ3.out⟩, ⟨by have := HGJ.out; omega⟩, ⟨by have h0 := HPF2.out; rw [HEP.out] at h0; exact h0⟩, HF, HP1, HP2, HM1⟩
              · have ep : put y (wd ++ pc j) p2 = (p2.1 ++ [y], p2.2 ++ [wd ++ pc j]) := by unfold put; rw [if_neg hm]
                have HPF3 := Aside0.mk (ep ▸ HPF2.out)
                have HFIT3 := Aside0.mk (ep ▸ HFIT.out)
                have hu := idx_upd hm
                have HU := Aside0.mk hu
                rw [decide_eq_false hm] at hsome
                have hjz := HJZ.out
                have hj3 := HJ3.out
                have ew : wrap64 (jz + 1) = jz + 1 := w64 (by omega) (by omega)
                have c2 : ((0 : Int) ≤ jz) = True := eq_true (by omega)
                have c3 : decide (jz ≤ wrap64 (jz + 1)) = true := decide_eq_true (by omega)
                have c3b := eq_true (of_decide_eq_true c3)
                have c4 : decide (wrap64 (jz + 1) ≤ 3) = true := decide_eq_true (by omega)
                have c4b := eq_true (of_decide_eq_true c4)
                have epc : (⟨#[97, 98, 99]⟩ : ByteArray).extract jz.toNat (wrap64 (jz + 1)).toNat = pc j := by rw [ew, hjz, pc]; congr 1
                have c5 : wd.size + ((⟨#[97, 98, 99]⟩ : ByteArray).extract jz.toNat (wrap64 (jz + 1)).toNat).size ≤ 9223372036854775807 := by rw [epc, size_pc j hj3]; have := HSZ.out; have := HI2.out; have := HLE.out; have := hu_.out; omega
                have c5a := eq_true c5
                have c5b : decide (wd.size + ((⟨#[97, 98, 99]⟩ : ByteArray).extract jz.toNat (wrap64 (jz + 1)).toNat).size ≤ 9223372036854775807) = true := decide_eq_true c5
                have c5c : (9223372036854775807 < wd.size + ((⟨#[97, 98, 99]⟩ : ByteArray).extract jz.toNat (wrap64 (jz + 1)).toNat).size) = False := eq_false (Nat.not_lt.2 c5)
                have c5d : (9223372036854775807 < wd.size + ((wrap64 (jz + 1)).toNat - jz.toNat)) = False := eq_false (by rw [ew, hjz]; have := HSZ.out; have := HI2.out; have := HLE.out; have := hu_.out; omega)
                have EPC := Aside0.mk epc
                have HLEN : Aside0 ((p2.1.length : Int) ≤ 1000000) := ⟨by have := HLE.out; have := hu_.out; omega⟩
                obtain ⟨ad9, ea9, hx9⟩ := Kd.at_string (Kd.R_reads' HMEM.out.words).2.2 (i : Int) (by omega) (by have := HL2.out; have := HI2.out; omega)
                subst ea9
                clear hx9 hm ep hu hjz hj3 ew epc c5 c3 c4
                go_wp2_with (first
                  | (go_at_fn g2; refine (HC.out _ (by exact HMEM.out.bel)).mono ?_; rintro e W1 ⟨rfl, hb⟩; have HM1 := Aside0.mk (HMEM.out.below hb); clear hb)
                  | ((with_reducible refine gate_dst (N := 51) rfl ?_); refine wp_look_ok mapInt rfl _ _ rfl _ _ _ HM1.out.map rfl y rfl HWY.out ?_; rw [hsome])
                  | (at_builtin; refine Kd.R_append (Kd.int .i64) (w0 := w) w.heap.size rfl (.tmp 60) (.tmp 62) 54 3 (.int .i64 0) 8 rfl Try.underlying54 info3 rfl (by decide) (by omega) (.slice (some ad8) p2.1.length c8) p2.1 y [.int .i64 y] (fun _ => True) (fun _ => False) rfl rfl ?aP (fun _ hk => hk.elim) ?aF ?aO ?aB ?aS ?aL ?_; (case aP => exact rfl); (case aF => exact (fun _ _ => trivial)); (case aO => exact HL3.out); (case aB => exact HB3.out); (case aS => exact HB3.out.size); (case aL => have := HLEN.out; omega); intro v8n w3 ho hb hg hat; have HS4 := Aside0.mk (Kd.R_over' HS3.out (Kd.R_typed HL3.out) (by decide) hg); have HL4 := Aside0.mk ho; have HB4 := Aside0.mk hb; have HM4 := Aside0.mk (HM3.out.kept hg (HM3.out.not_row (Kd.R_typed HL3.out))); clear ho hb hg hat)
                  | (refine wp_update mapInt rfl _ _ _ rfl _ _ _ HM1.out.map (by have := HLEN.out; unfold maxLen; omega) rfl y rfl HWY.out (p2.1.length : Int) rfl (by have := HLEN.out; simp [Lit.wf, IntKind.min, IntKind.max, IntKind.signed, IntKind.bits]; omega) ?_; intro w2 hm hgr; rw [HU.out, if_neg (by rw [hsome]; decide)] at hm; have HL3 := Aside0.mk (R_over_map HM1.out.list HM1.out.map hgr); have HS3 := Aside0.mk (R_over_map HM1.out.words HM1.out.map hgr); have HB3 := Aside0.mk (below_map HM1.out.bel hgr HGM.out); have HM3 := Aside0.mk hm; clear hm hgr))
                have HS5 := Aside0.mk (Kd.R_drew HS4.out)
                have HL5 := Aside0.mk (Kd.R_drew HL4.out)
                have HB5 := Aside0.mk (below_drew1 HB4.out)
                have HM5 := Aside0.mk (HM4.out.below (below_drew1 (Below.refl _ _)))
                clear HS4 HL4 HB4 HM4 HL3 HS3 HB3 HM3 HM1
                obtain ⟨ad9', ea9, hx9⟩ := Kd.at_string (Kd.R_reads' HS5.out).2.2 (i : Int) (by omega) (by have := HL2.out; have := HI2.out; omega)
                cases ea9
                rw [HW1.out, Int.toNat_natCast] at hx9
                refine start_ (n := 13) (S := (fun w' => w'.cell? (ad9.add i) = some (.string wd))) (ds := [10, 11]) #[false, false, false, false, false, false, false, false, false, false, false, false, false] (by kernel_rfl) rfl rfl (hx9) (fun hHeld => ?_); refine with_tabW tab17 bits17 (fun HT_ HW_ => ?_)
                generalize w3.drew = w4 at HS5 HL5 HB5 HM5 hx9 hHeld ⊢
                refine pure_ (i := 0) (N := some 64) (v := ?_) (a' := ?_) #[true, false, false, false, false, false, false, false, false, false, false, false, false] rfl rfl (any_of HT_.out (by kernel_rfl)) (fun _ _ _ h => h) (Or.inl ⟨by rfl, ?_⟩) ?_ ?_
                rotate_left
                · intro w'
                  go_simp
                  with_reducible rfl
                rotate_left
                · simp only [Act.put, List.setIfInBounds_toArray, List.set_cons_zero, List.set_cons_succ, i64_w, i32_w]
                  rfl
                refine pure_ (i := 1) (N := some 65) (v := ?_) (a' := ?_) #[true, true, false, false, false, false, false, false, false, false, false, false, false] rfl rfl (any_of HT_.out (by kernel_rfl)) (fun _ _ _ h => h) (Or.inl ⟨by rfl, ?_⟩) ?_ ?_
                rotate_left
                · intro w'
                  go_simp
                  with_reducible rfl
                rotate_left
                · simp only [Act.put, List.setIfInBounds_toArray, List.set_cons_zero, List.set_cons_succ, i64_w, i32_w]
                  rfl
                refine pure_ (i := 2) (N := some 66) (v := ?_) (a' := ?_) #[true, true, true, false, false, false, false, false, false, false, false, false, false] rfl rfl (any_of HT_.out (by kernel_rfl)) (fun _ _ _ h => h) (Or.inl ⟨by rfl, ?_⟩) ?_ ?_
                rotate_left
                · intro w'
                  go_simp
                  with_reducible rfl
                rotate_left
                · simp only [Act.put, List.setIfInBounds_toArray, List.set_cons_zero, List.set_cons_succ, i64_w, i32_w]
                  rfl
                refine pure_ (i := 3) (N := some 67) (v := ?_) (a' := ?_) #[true, true, true, true, false, false, false, false, false, false, false, false, false] rfl rfl (any_of HT_.out (by kernel_rfl)) (fun _ _ _ h => h) (Or.inl ⟨by rfl, ?_⟩) ?_ ?_
                rotate_left
                · intro w'
                  go_simp
                  with_reducible rfl
                rotate_left
                · simp only [Act.put, List.setIfInBounds_toArray, List.set_cons_zero, List.set_cons_succ, i64_w, i32_w]
                  rfl
                refine pure_ (i := 5) (N := some 69) (v := ?_) (a' := ?_) #[true, true, true, true, false, true, false, false, false, false, false, false, false] rfl rfl (any_of HT_.out (by kernel_rfl)) (fun _ _ _ h => h) (Or.inl ⟨by rfl, ?_⟩) ?_ ?_
                rotate_left
                · intro w'
                  go_simp
                  with_reducible rfl
                rotate_left
                · simp only [Act.put, List.setIfInBounds_toArray, List.set_cons_zero, List.set_cons_succ, i64_w, i32_w]
                  rfl
                refine pure_ (i := 6) (N := some 70) (v := ?_) (a' := ?_) #[true, true, true, true, false, true, true, false, false, false, false, false, false] rfl rfl (any_of HT_.out (by kernel_rfl)) (fun _ _ _ h => h) (Or.inl ⟨by rfl, ?_⟩) ?_ ?_
                rotate_left
                · intro w'
                  go_simp
                  with_reducible rfl
                rotate_left
                · simp only [Act.put, List.setIfInBounds_toArray, List.set_cons_zero, List.set_cons_succ, i64_w, i32_w]
                  rfl
                refine pure_ (i := 7) (N := some 71) (v := ?_) (a' := ?_) #[true, true, true, true, false, true, true, true, false, false, false, false, false] rfl rfl (any_of HT_.out (by kernel_rfl)) (fun _ _ _ h => h) (Or.inl ⟨by rfl, ?_⟩) ?_ ?_
                rotate_left
                · intro w'
                  go_simp
                  with_reducible rfl
                rotate_left
                · simp only [Act.put, List.setIfInBounds_toArray, List.set_cons_zero, List.set_cons_succ, i64_w, i32_w]
                  rfl
                refine pure_ (i := 8) (N := some 72) (v := ?_) (a' := ?_) #[true, true, true, true, false, true, true, true, true, false, false, false, false] rfl rfl (any_of HT_.out (by kernel_rfl)) (fun _ _ _ h => h) (Or.inl ⟨by rfl, ?_⟩) ?_ ?_
                rotate_left
                · intro w'
                  go_simp
                  with_reducible rfl
                rotate_left
                · simp only [Act.put, List.setIfInBounds_toArray, List.set_cons_zero, List.set_cons_succ, i64_w, i32_w]
                  rfl
                refine take_ (i := 4) (N := some 68) (v := ?_) (a' := ?_) #[true, true, true, true, true, true, true, true, true, false, false, false, false] rfl rfl (take_ofW HT_.out HW_.out (by kernel_rfl)) (fun _ _ _ h => h) (Or.inl ⟨by rfl, ?_⟩) hHeld ?_ ?_
                rotate_left
                · intro w' s0
                  go_simp
                  with_reducible rfl
                rotate_left
                · simp only [Act.put, List.setIfInBounds_toArray, List.set_cons_zero, List.set_cons_succ, i64_w, i32_w]
                  rfl
                refine pure_ (i := 9) (N := some 73) (v := ?_) (a' := ?_) #[true, true, true, true, true, true, true, true, true, true, false, false, false] rfl rfl (any_of HT_.out (by kernel_rfl)) (fun _ _ _ h => h) (Or.inl ⟨by rfl, ?_⟩) ?_ ?_
                rotate_left
                · intro w'
                  go_simp
                  with_reducible rfl
                rotate_left
                · simp only [Act.put, List.setIfInBounds_toArray, List.set_cons_zero, List.set_cons_succ, i64_w, i32_w]
                  rfl
                refine last_ (i := 10) (N := some 74) #[true, true, true, true, true, true, true, true, true, true, true, false, false] rfl rfl (one_of HT_.out (by kernel_rfl)) (by decide) (fun K hK => ?_)
                refine value_ (w1 := ?_) (v := ?_) (by rfl) rfl ?_ ?_
                rotate_left 2
                · go_simp
                  constructor
                  · rfl
                  · rfl
                refine hK.out _ _ ?_
                clear hK K
                refine norm_ (a' := ?_) ?_ ?_
                rotate_left
                · show Act.put _ (some 74) _ = _
                  simp only [Act.put, List.setIfInBounds_toArray, List.set_cons_zero, List.set_cons_succ, i64_w, i32_w]
                  rfl
                refine last_ (i := 11) (N := some 75) #[true, true, true, true, true, true, true, true, true, true, true, true, false] rfl rfl (one_of HT_.out (by kernel_rfl)) (by decide) (fun K hK => ?_)
                refine Kd.R_append_step Kd.string (w0 := w) w.heap.size (by rfl) (.tmp 64) (.tmp 74) 47 9 (.string ⟨#[]⟩) 16 rfl Try.underlying47 info9 rfl (by decide) (by omega) (.slice (some ad9) p2.2.length c9) p2.2 (wd ++ ((⟨#[97, 98, 99]⟩ : ByteArray).extract jz.toNat (wrap64 (jz + 1)).toNat)) [.string (wd ++ ((⟨#[97, 98, 99]⟩ : ByteArray).extract jz.toNat (wrap64 (jz + 1)).toNat))] (fun _ => True) (fun _ => False) rfl rfl ?aP (fun _ hk => hk.elim) ?aF ?aO ?aB ?aS ?aL ?_
                (case aP => exact rfl)
                (case aF => exact (fun _ _ => trivial))
                (case aO => exact HS5.out)
                (case aB => exact HB5.out)
                (case aS => exact HB5.out.size)
                (case aL => have := HLEN.out; have := HL2.out; omega)
                intro v9n w5 ho hb hg hat
                rw [EPC.out] at ho
                have HMN : Aside0 (Mem w w5 v8n v9n gm (p2.1 ++ [y], p2.2 ++ [wd ++ pc j])) := ⟨⟨Kd.R_over' HL5.out (Kd.R_typed HS5.out) (by decide) hg, ho, by have h0 := HM5.out.kept hg (HM5.out.not_row (Kd.R_typed HS5.out)); rw [List.length_append]; exact h0, hb⟩⟩
                clear ho hb hg hat HS5 HL5 HB5 HM5
                refine hK.out _ _ ?_
                clear hK K
                refine norm_ (a' := ?_) ?_ ?_
                rotate_left
                · show Act.put _ (some 75) _ = _
                  simp only [Act.put, List.setIfInBounds_toArray, List.set_cons_zero, List.set_cons_succ, i64_w, i32_w]
                  rfl
                refine pure_ (i := 12) (N := some 9) (v := ?_) (a' := ?_) #[true, true, true, true, true, true, true, true, true, true, true, true, true] rfl rfl (any_of HT_.out (by kernel_rfl)) (fun _ _ _ h => h) (Or.inl ⟨by rfl, ?_⟩) ?_ ?_
                rotate_left
                · intro w'
                  go_simp
                  with_reducible rfl
                rotate_left
                · simp only [Act.put, List.setIfInBounds_toArray, List.set_cons_zero, List.set_cons_succ, i64_w, i32_w]
                  rfl
                refine done_ (done_of HT_.out (by kernel_rfl)) ?_
                go_wp2
                go_roundg g3
                case measure => omega
                case rel => exact ⟨(p2.1 ++ [y], p2.2 ++ [wd ++ pc j]), j + 1, wrap64 (jz + 1), rfl, ⟨by rw [HJZ.out, up1 (by have := HJ3.out; omega)]⟩, ⟨HJ3.out⟩, ⟨by have := HGJ.out; omega⟩, HPF3, HFIT3, ⟨by rw [List.getElem?_append_left HI2.out]; exact HP1.out⟩, ⟨by rw [List.getElem?_append_left (by have := HL2.out; have := HI2.out; omega)]; exact HP2.out⟩, HMN⟩
            · have ej : j = 3 := by have := HJ.out; omega
              subst ej
              have ejz := HJZ.out
              subst ejz
              have d3 : decide (((3 : Nat) : Int) < 3) = false := by decide
              go_wp2
              go_roundg g
              case measure => omega
              case rel => exact ⟨p2, i + 1, by rw [up1 (by have := (List.getElem?_eq_some_iff.mp HP1.out).1; have := HF.out.le; have := hu_.out; omega)], ⟨(List.getElem?_eq_some_iff.mp HP1.out).1⟩, ⟨by have := HG.out; omega⟩, ⟨by have h0 := HPF.out; rw [show 3 - 3 = 0 from rfl, ex] at h0; rw [h0]; exact HRR.out⟩, HF, HMEM⟩
      · have hr := HR.out
        rw [bfs, dif_neg hi] at hr
        subst hr
        have d1 : decide ((i : Int) < (p.1.length : Int)) = false := decide_eq_false (by omega)
        go_wp2
        go_ret2
        exact ⟨rfl, HMEM.out.bel⟩
end Go.Proofs.Ytoknogcefajfiaa.Wk
