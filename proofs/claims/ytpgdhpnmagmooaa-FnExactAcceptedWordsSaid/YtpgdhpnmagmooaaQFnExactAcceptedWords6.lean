/- The law FnExactAcceptedWords holds for every input. No condition. -/
import Derived.Test.YtpgdhpnmagmooaaQFnExactAcceptedWords2
import Derived.Test.YtpgdhpnmagmooaaQFnExactAcceptedWords5
import Derived.Shelf.Abstract
import Derived.Lib.Walk
import Derived.Test.YtpgdhpnmagmooaaQFnExactAcceptedWords3
import Derived.Test.YtpgdhpnmagmooaaQFnExactAcceptedWords4
import Derived.Test.YtpgdhpnmagmooaaRows
import Derived.WalkKit
import Derived.ProofKit
import Derived.OpenShut
import Derived.ShutString
import Derived.ChangeOld
import Derived.Below
import Derived.SizedLaws
import Derived.Lib.SmallJoins
import Derived.ChangeSlices
section
namespace Go.Proofs.Ytpgdhpnmagmooaa.Wk
open Go.RowKit Go.Shelf Go.Proofs.Ytpgdhpnmagmooaa.P Go.Proofs.Ytpgdhpnmagmooaa.Pl Go.Proofs.Ytpgdhpnmagmooaa.Mp Go.Proofs.YtpgdhpnmagmooaaW.PrintWords Go.Proofs.YtpgdhpnmagmooaaW.PrintLast Go.Proofs.YtpgdhpnmagmooaaW.PrintMore
set_option linter.unusedVariables false
set_option linter.unusedSimpArgs false
theorem S_mark {e0 e : Nat} {w : World} {base g n cap : Nat} {ok : Nat → Prop} {xss : List (List Int)} (h : Kd.S (Kd.slice e0 (Kd.int .i64)) e w base ok (.slice (some ⟨g, 0, none⟩) n cap) xss) (j : Nat) (hj : j < xss.length) :
    ∃ u : Value, w.cell? ⟨g, j, none⟩ = some u ∧ Kd.R (Kd.int .i64) e0 w base (fun k => some k = u.ownBlock ∧ ok k ∧ k ≠ g) u xss[j] ∧
      ∀ (w' : World) (ys : List Int), (∀ b, some b ≠ u.ownBlock → b < w.heap.size → w'.heap[b]? = w.heap[b]?) → Kd.R (Kd.int .i64) e0 w' base (fun k => some k = u.ownBlock) u ys → Kd.S (Kd.slice e0 (Kd.int .i64)) e w' base ok (.slice (some ⟨g, 0, none⟩) n cap) (xss.set j ys) := by
  obtain ⟨f, h0, inner, ho, hr⟩ := h
  obtain ⟨u, hu, hR⟩ := hr.2 j _ (Kd.zip_at (List.getElem?_eq_getElem hj))
  have hsz : (Kd.tag f (Kd.slice e0 (Kd.int .i64))).sz = 1 := rfl
  rw [hsz, Nat.mul_one] at hu
  have hg : (Value.slice (some ⟨g, 0, none⟩) n cap).ownBlock = some g := by simp [Value.ownBlock]
  have hin : inner[j]? = some u := by
    have := congrArg (fun l => l[0]?) hu
    simpa [List.getElem?_take, List.getElem?_drop] using this
  refine ⟨u, ?_, Kd.R_mono (Kd.R_tight2 rfl hR) (fun k hk => ⟨hk.1, hk.2.1.1, fun e => hk.2.1.2 (by rw [e, hg])⟩), fun w' ys hb hR2 => ⟨f, h0, inner, ?_, ?_, ?_⟩⟩
  · have := ho.cells (g := g) hg j u hin
    rwa [add_plain] at this
  · rw [List.length_zipIdx, List.length_set]
    rw [List.length_zipIdx] at ho
    refine own_move ho (fun k hk => hb k (fun e => ?_) (own_lt ho k hk))
    exact (hR.1 k e.symm).1.2 hk.symm
  · have := hr.1
    rw [List.length_zipIdx] at this ⊢
    rw [List.length_set]
    exact this
  · intro i p hp
    rw [List.getElem?_zipIdx, Nat.zero_add] at hp
    obtain ⟨x, hx, rfl⟩ := Option.map_eq_some_iff.1 hp
    rw [List.getElem?_set] at hx
    by_cases e : j = i
    · subst e
      rw [if_pos rfl, if_pos hj] at hx
      injection hx with hx
      subst hx
      refine ⟨u, by rw [hsz, Nat.mul_one]; exact hu, Kd.R_mono hR2 (fun k hk => hR.1 k hk.symm)⟩
    · rw [if_neg e] at hx
      have := hr.2 i _ (Kd.zip_at hx)
      exact Kd.M_step (d := Kd.slice e0 (Kd.int .i64)) this (fun k hk hlt => hb k (fun e2 => e ((hR.1 k e2.symm).2.symm.trans hk.2)) hlt)
def mkRow (a : Int) (xs : List Int) : List Int := (List.range xs.length).map fun (i : Nat) => a + i
def mkK : List (List Int) → Int → Int
  | [], a => a
  | r :: t, a => mkK t (a + r.length)
def mkRows : List (List Int) → Int → List (List Int)
  | [], _ => []
  | r :: t, a => mkRow a r :: mkRows t (a + r.length)
theorem markInts_l0 (xs : List Int) (hl : xs.length ≤ 2000000) (a : Int) (ha : 0 ≤ a ∧ a ≤ 1000000000000000) : ∀ d i : Nat, i + d = xs.length → Ev (fun k => laws_markIntS.l0 k ((List.range i).map (fun (m : Nat) => a + m) ++ xs.drop i) (a + i) i) (a + xs.length, mkRow a xs) := by
  intro d
  induction d with
  | zero =>
    intro i hi
    refine next ?_
    rw [List.drop_eq_nil_of_le (by omega), List.append_nil]
    simp only [laws_markIntS.l0, List.length_map, List.length_range, if_neg (show ¬ (i : Int) < (i : Int) by omega)]
    exact ev_some (by unfold mkRow; rw [show xs.length = i by omega])
  | succ d ih =>
    intro i hi
    refine next ?_
    have hlen : (((List.range i).map (fun (m : Nat) => a + m) ++ xs.drop i).length : Int) = (xs.length : Int) := by simp; omega
    have hset : ((List.range i).map (fun (m : Nat) => a + m) ++ xs.drop i).set i (a + i) = (List.range (i + 1)).map (fun (m : Nat) => a + m) ++ xs.drop (i + 1) := by
      rw [List.drop_eq_getElem_cons (by omega), List.range_succ, List.map_append, List.map_singleton]
      rw [List.set_append_right _ _ (by simp)]
      simp only [List.length_map, List.length_range, Nat.sub_self, List.set_cons_zero, List.append_assoc, List.singleton_append]
    have IH := ih (i + 1) (by omega)
    simp only [laws_markIntS.l0, hlen, if_pos (show (i : Int) < (xs.length : Int) by omega), if_pos (show (0 : Int) ≤ (i : Int) by omega), Int.toNat_natCast, hset]
    rw [up1 (by omega), w64 (by omega) (by omega)]
    rw [show a + ((i + 1 : Nat) : Int) = a + i + 1 by omega] at IH
    exact IH
theorem markInts (xs : List Int) (hl : xs.length ≤ 2000000) (a : Int) (ha : 0 ≤ a ∧ a ≤ 1000000000000000) : Ev (fun k => laws_markIntS.f k xs a) (a + xs.length, mkRow a xs) := by
  have := markInts_l0 xs hl a ha xs.length 0 (by omega)
  refine this.congr fun k => ?_
  simp [laws_markIntS.f]
theorem mkK_snoc : ∀ (t : List (List Int)) (r : List Int) (a : Int), mkK (t ++ [r]) a = mkK t a + r.length
  | [], r, a => rfl
  | x :: t, r, a => mkK_snoc t r _
theorem mkRows_snoc : ∀ (t : List (List Int)) (r : List Int) (a : Int), mkRows (t ++ [r]) a = mkRows t a ++ [mkRow (mkK t a) r]
  | [], r, a => rfl
  | x :: t, r, a => by
    show mkRow a x :: mkRows (t ++ [r]) _ = _
    rw [mkRows_snoc t r]
    rfl
theorem mkRows_len : ∀ (t : List (List Int)) (a : Int), (mkRows t a).length = t.length
  | [], a => rfl
  | x :: t, a => congrArg (· + 1) (mkRows_len t _)
def small (xss : List (List Int)) : Prop := ∀ r ∈ xss, r.length ≤ 2000000
theorem mkK_bound : ∀ (t : List (List Int)) (a : Int), small t → a ≤ mkK t a ∧ mkK t a ≤ a + 2000000 * t.length
  | [], a, h => by simp [mkK]
  | x :: t, a, h => by
    have h1 := mkK_bound t (a + x.length) (fun r hr => h r (List.mem_cons_of_mem _ hr))
    have h2 := h x List.mem_cons_self
    show a ≤ mkK t (a + x.length) ∧ mkK t (a + x.length) ≤ _
    simp only [List.length_cons]
    omega
set_option maxRecDepth 100000 in
set_option maxHeartbeats 4000000 in
theorem markRowsCalls (P0 : Nat → Prop) (v : Value) (xss : List (List Int)) (a : Int) (w0 w : World) (hB : Below w0.heap.size w0 w) (ho : Kd.S (Kd.slice 3 (Kd.int .i64)) 43 w w0.heap.size P0 v xss)
    (hx : xss.length ≤ 2000000) (hs : small xss) (ha : 0 ≤ a ∧ a ≤ 20000000000000) :
    Calls Try.prog 38 #[v, .int .i64 a] w fun e w' => e = .returned (.int .i64 (mkK xss a)) ∧ Kd.S (Kd.slice 3 (Kd.int .i64)) 43 w' w0.heap.size P0 v (mkRows xss a) ∧ Below w0.heap.size w0 w' ∧ Kept w w' P0 := by
  obtain ⟨A, c, ev⟩ := Kd.S_slice ho
  subst ev
  have HX := am_ hx
  have HS := am_ hs
  have HA := am_ ha
  have HB := am_ hB
  have HO := am_ ho
  have HK := am_ (Kept.refl w P0)
  clear hx hs ha hB ho
  go_enter Try.func38, Try.ntmps38
  go_wp2
  go_loopg [1, 5] xss.length (fun gg v1 v5 wr => ∃ (i : Nat), v5 = .int .i64 (i : Int) ∧ v1 = .int .i64 (mkK (xss.take i) a) ∧ Aside0 (i ≤ xss.length) ∧ Aside0 (xss.length ≤ gg + i) ∧ Aside0 (Kd.S (Kd.slice 3 (Kd.int .i64)) 43 wr w0.heap.size P0 (.slice A xss.length c) (mkRows (xss.take i) a ++ xss.drop i)) ∧ Aside0 (Below w0.heap.size w0 wr) ∧ Aside0 (Kept w wr P0))
  case atStart => exact ⟨0, rfl, by simp [mkK], ⟨Nat.zero_le _⟩, ⟨by omega⟩, ⟨by simpa [mkRows] using HO.out⟩, HB, HK⟩
  case round =>
    clear HO HB HK
    obtain ⟨i, rfl, rfl, HI, HG, HO, HB, HK⟩ := hrel
    by_cases hi : i < xss.length
    · cases gk with
      | zero => exact absurd HG.out (by omega)
      | succ g1 =>
      have hlen : (mkRows (xss.take i) a ++ xss.drop i).length = xss.length := by rw [List.length_append, mkRows_len, List.length_take, List.length_drop]; omega
      obtain ⟨g, cap, e, _⟩ := Kd.S_form HO.out (by omega)
      injection e with e1 e2 e3
      subst e1
      subst e3
      obtain ⟨u, hu, hR, hset⟩ := S_mark HO.out i (by omega)
      have hat : (mkRows (xss.take i) a ++ xss.drop i)[i]'(by omega) = xss[i] := by
        rw [List.getElem_append_right (by rw [mkRows_len]; simp; omega)]
        simp only [mkRows_len, List.length_take, List.getElem_drop]
        congr 1
        omega
      rw [hat] at hR
      have hri := HS.out _ (List.getElem_mem hi)
      have hkb := mkK_bound (xss.take i) a (fun r hr => HS.out r (List.mem_of_mem_take hr))
      have hti : (xss.take i).length = i := by simp; omega
      rw [hti] at hkb
      have hkk : mkK (xss.take (i + 1)) a = mkK (xss.take i) a + xss[i].length := by rw [List.take_succ_eq_append_getElem hi, mkK_snoc]
      have hrr : (mkRows (xss.take i) a ++ xss.drop i).set i (mkRow (mkK (xss.take i) a) xss[i]) = mkRows (xss.take (i + 1)) a ++ xss.drop (i + 1) := by
        rw [List.take_succ_eq_append_getElem hi, mkRows_snoc, List.set_append_right _ _ (by rw [mkRows_len, hti]; exact Nat.le_refl _), mkRows_len, hti, Nat.sub_self, List.drop_eq_getElem_cons hi, List.set_cons_zero, List.append_assoc, List.singleton_append]
      obtain ⟨kf, hkf⟩ := (markInts xss[i] hri (mkK (xss.take i) a) (by have := HA.out; have := HX.out; omega)).rounds
      generalize xss[i] = row at hR hri hkk hrr hkf
      generalize hka : mkK (xss.take i) a = ka at hkk hrr hkf ⊢
      obtain ⟨Au, cu, eu⟩ := Kd.R_slice hR
      subst eu
      have HRW := am_ hR
      have HSET := am_ hset
      have HKF := am_ hkf
      have HKK := am_ hkk
      have HRR := am_ hrr
      have p1 : ((0 : Int) ≤ (i : Int)) = True := eq_true (by omega)
      have q1 : ((i : Int) < (xss.length : Int)) = True := eq_true (by omega)
      have HI2 := am_ hi
      clear hi hlen hat hri hkb hti hkk hrr hkf hR hset hka e2
      go_wp2_with ((with_reducible refine gate_callee (f := 55) rfl ?_); refine goesL_ (some 17) rfl rfl Try.func55 (by kernel_rfl) rfl #[.slice Au row.length cu, .int .i64 ka] rfl (by (try simp only [List.map_toArray, List.map_cons, List.map_nil]); first | done | rfl) ?_; (with_reducible refine (laws_markIntS.calls kf (fun k_ => some k_ = (Value.slice Au row.length cu).ownBlock) _ row ka _ _ w0 _ ?sideB ?sideO HKF.out).mono ?_); (case sideB => exact HB.out); (case sideO => exact Kd.R_mono HRW.out (fun _ h_ => h_.1)); rintro e w' ⟨rfl, hr2, hb2, hk2⟩; have HR2 := am_ hr2; have HB2 := am_ hb2; have HK2 := am_ hk2; clear hr2 hb2 hk2; refine ⟨_, rfl, ?_⟩)
      have HSN : Aside0 (Kd.S (Kd.slice 3 (Kd.int .i64)) 43 w' w0.heap.size P0 (.slice (some ⟨g, 0, none⟩) xss.length c) (mkRows (xss.take (i + 1)) a ++ xss.drop (i + 1))) := ⟨by
        rw [← HRR.out]
        exact HSET.out w' _ (fun b hne hlt => HK2.out.2 b hlt (fun e => hne e)) (Kd.R_tight rfl HR2.out)⟩
      have HKN : Aside0 (Kept w w' P0) := ⟨HK.out.then_ HK2.out (fun k e => .inl (HRW.out.1 k e.symm).2.1)⟩
      go_roundg g1
      case measure => omega
      case rel => exact ⟨i + 1, by rw [up1 (by have := HI2.out; have := HX.out; omega)], by rw [HKK.out], ⟨HI2.out⟩, ⟨by have := HG.out; omega⟩, HSN, HB2, HKN⟩
    · have ei : i = xss.length := by have := HI.out; omega
      subst ei
      have q1 : ((xss.length : Int) < (xss.length : Int)) = False := eq_false (by omega)
      have HO : Aside0 (Kd.S (Kd.slice 3 (Kd.int .i64)) 43 wr w0.heap.size P0 (.slice A xss.length c) (mkRows xss a)) := ⟨by simpa using HO.out⟩
      rw [List.take_length]
      clear hi HI HG
      go_wp2
      go_ret
      exact ⟨rfl, HO.out, HB.out, HK.out⟩
set_option maxRecDepth 100000 in
set_option maxHeartbeats 4000000 in
theorem markDfaCalls (P0 P1 : Nat → Prop) (v0 v1 : Value) (xs : List Bool) (xss : List (List Int)) (a : Int) (w0 w : World) (hB : Below w0.heap.size w0 w) (h0 : Kd.R Kd.bool 4 w w0.heap.size P0 v0 xs) (h1 : Kd.S (Kd.slice 3 (Kd.int .i64)) 43 w w0.heap.size P1 v1 xss)
    (hl : xs.length ≤ 2000000) (hx : xss.length ≤ 2000000) (hs : small xss) (ha : 0 ≤ a ∧ a ≤ 10000000000000) :
    Calls Try.prog 14 #[.agg #[v0, v1], .int .i64 a] w fun e w' => e = .returned (.int .i64 (mkK xss (a + xs.length))) ∧ Kd.R Kd.bool 4 w' w0.heap.size P0 v0 (mkB a xs) ∧ Kd.S (Kd.slice 3 (Kd.int .i64)) 43 w' w0.heap.size P1 v1 (mkRows xss (a + xs.length)) ∧ Below w0.heap.size w0 w' ∧ Kept w w' (fun k => P0 k ∨ P1 k) := by
  have hu := Try.underlying28
  obtain ⟨A0, c0, e0⟩ := Kd.R_slice h0
  subst e0
  obtain ⟨A1, c1, e1⟩ := Kd.S_slice h1
  subst e1
  obtain ⟨kf, hkf⟩ := (markBools xs (by omega) a (by omega)).rounds
  have HKF := am_ hkf
  have HX := am_ hx
  have HS := am_ hs
  have HA : Aside0 (0 ≤ a + (xs.length : Int) ∧ a + (xs.length : Int) ≤ 20000000000000) := ⟨by omega⟩
  have HB := am_ (below_alloc hB (Obj.cells #[.slice A0 xs.length c0, .slice A1 xss.length c1] 28))
  have H0 := am_ (Kd.R_alloc h0 (Obj.cells #[.slice A0 xs.length c0, .slice A1 xss.length c1] 28))
  have H1 := am_ (Kd.S_alloc h1 (Obj.cells #[.slice A0 xs.length c0, .slice A1 xss.length c1] 28))
  have HK := am_ ((Kept.refl w (fun k => P0 k ∨ P1 k)).alloc (Obj.cells #[.slice A0 xs.length c0, .slice A1 xss.length c1] 28))
  have HBX : Aside0 ((w.alloc (Obj.cells #[.slice A0 xs.length c0, .slice A1 xss.length c1] 28)).heap[w.heap.size]? = some (.cells #[.slice A0 xs.length c0, .slice A1 xss.length c1] 28 (0, 0))) := ⟨blk_new w _⟩
  clear h0 h1 hkf hl hx hs ha hB
  go_enter Try.func14, Try.ntmps14
  go_wp2_with (first
    | ((with_reducible refine gate_callee (f := 15) rfl ?_); refine goesL_ (some 8) rfl rfl Try.func15 (by kernel_rfl) rfl #[.slice A0 xs.length c0, .int .i64 a] rfl (by (try simp only [List.map_toArray, List.map_cons, List.map_nil]); first | done | rfl) ?_; (with_reducible refine (laws_markBoolS.calls kf (fun k_ => some k_ = (Value.slice A0 xs.length c0).ownBlock) _ xs a _ _ w0 _ ?sideB ?sideO HKF.out).mono ?_); (case sideB => exact HB.out); (case sideO => exact Kd.R_tight rfl H0.out); rintro e w2 ⟨rfl, hr2, hb2, hk2⟩; have HR2 := am_ (Kd.R_tight rfl hr2); have HB2 := am_ hb2; have HK2 := am_ hk2; have HBX2 : Aside0 (w2.heap[w.heap.size]? = some (.cells #[.slice A0 xs.length c0, .slice A1 xss.length c1] 28 (0, 0))) := ⟨blk_kept HBX.out hk2 (Kd.R_ne H0.out HBX.out (by decide))⟩; have H12 := am_ (Kd.S_step (Kd.S_apart' H1.out (Kd.R_typed H0.out) (by decide)) (fun k hk hlt => hk2.2 k hlt hk.2)); have hcx : w2.cell? ⟨w.heap.size, 1, none⟩ = some (.slice A1 xss.length c1) := (blk_cell HBX2.out 1).trans rfl; clear hr2 hb2 hk2; refine ⟨_, rfl, ?_⟩)
    | ((with_reducible refine gate_callee (f := 38) rfl ?_); refine goesL_ (some 12) rfl rfl Try.func38 (by kernel_rfl) rfl #[.slice A1 xss.length c1, .int .i64 (a + xs.length)] rfl (by (try simp only [List.map_toArray, List.map_cons, List.map_nil]); first | done | rfl) ?_; (with_reducible refine (markRowsCalls (fun k_ => P1 k_ ∧ some k_ ≠ (Value.slice A0 xs.length c0).ownBlock) _ xss (a + xs.length) w0 _ ?sideB ?sideO HX.out HS.out HA.out).mono ?_); (case sideB => exact HB2.out); (case sideO => exact H12.out); rintro e w3 ⟨rfl, hr3, hb3, hk3⟩; have HR3 := am_ hr3; have HB3 := am_ hb3; have HK3 := am_ hk3; clear hr3 hb3 hk3; refine ⟨_, rfl, ?_⟩))
  go_ret
  refine ⟨rfl, ?_, Kd.S_mono HR3.out (fun _ hk => hk.1), HB3.out, ?_⟩
  · exact Kd.R_mono (Kd.R_step HR2.out (fun k hk hlt => HK3.out.2 k hlt (fun e => e.2 hk))) (fun k hk => H0.out.1 k hk.symm)
  · exact (HK.out.then_ HK2.out (fun k hk => .inl (.inl (H0.out.1 k hk.symm)))).then_ HK3.out (fun k hk => .inl (.inr hk.1))
end Go.Proofs.Ytpgdhpnmagmooaa.Wk
end
section
namespace Go.Proofs.Ytpgdhpnmagmooaa
open Go.RowKit Go.Shelf Go.Proofs.Ytpgdhpnmagmooaa.P Go.Proofs.Ytpgdhpnmagmooaa.Wk Go.Proofs.YtpgdhpnmagmooaaW.PrintWords Go.Proofs.YtpgdhpnmagmooaaW.PrintLast Go.Proofs.YtpgdhpnmagmooaaW.PrintMore
set_option linter.unusedVariables false
def dvP (b : Nat) (v0 v1 : Value) (xs : List Bool) (xss : List (List Int)) : Pc := ⟨fun w fp => Kd.R Kd.bool 4 w b (fun k => k ∈ fp) v0 xs ∧ Kd.S (Kd.slice 3 (Kd.int .i64)) 43 w b (fun k => k ∈ fp) v1 xss ∧ ∀ k ∈ fp, k < w.heap.size,
  fun ⟨h, g, hl⟩ hm => ⟨Kd.R_step h (fun k hk _ => hm k hk), Kd.S_step g (fun k hk _ => hm k hk), fun k hk => lt_same (hl k hk) (hm k hk)⟩, fun ⟨_, _, hl⟩ => hl⟩
section
variable {w0 w w1 : World} {ps : List Pc} {ok0 ok1 : Nat → Prop} {v0 v1 : Value} {xs : List Bool} {xss : List (List Int)} {b : Nat}
theorem Sl.newD (H : Sl w0 w ps) (hb : Below w.heap.size w w1) (h0 : Kd.R Kd.bool 4 w1 w.heap.size ok0 v0 xs) (h1 : Kd.S (Kd.slice 3 (Kd.int .i64)) 43 w1 w.heap.size ok1 v1 xss) : Sl w0 w1 (ps ++ [dvP w0.heap.size v0 v1 xs xss]) := by
  have hs := hb.size
  have hin : ∀ k, w.heap.size ≤ k → k < w1.heap.size → k ∈ List.range' w.heap.size (w1.heap.size - w.heap.size) := fun k h1 h2 => by
    rw [List.mem_range'_1]
    omega
  refine H.call ⟨hb, List.range' w.heap.size (w1.heap.size - w.heap.size) ++ [], ⟨_, [], rfl, ⟨Kd.R_lower (Kd.R_mono (Kd.R_bound h0) (fun k hk => hin k hk.2.1 hk.2.2.1)) H.bel.size, Kd.S_lower (Kd.S_mono (Kd.S_bound h1) (fun k hk => hin k hk.2.1 hk.2.2.1)) H.bel.size, fun k hk => ?_⟩, rfl⟩, ?_, fun k hk => ?_⟩
  · rw [List.mem_range'_1] at hk
    omega
  · rw [List.append_nil]; exact List.nodup_range'
  · rw [List.append_nil, List.mem_range'_1] at hk
    exact hk.1
theorem Sl.dv (H : Sl w0 w ps) (i : Nat) (hi : ps[i]? = some (dvP b v0 v1 xs xss) := by rfl) : ∃ A0 c0 A1 c1, v0 = .slice A0 xs.length c0 ∧ v1 = .slice A1 xss.length c1 ∧ xs.length ≤ c0 ∧ xss.length ≤ c1 := by
  obtain ⟨f, ⟨h, g, hl⟩, hn, hg⟩ := H.get i hi
  obtain ⟨A0, c0, e0, h0, _⟩ := Kd.R_reads h
  obtain ⟨A1, c1, e1, h1, _⟩ := Kd.S_reads g
  exact ⟨A0, c0, A1, c1, e0, e1, h0, h1⟩
theorem Sl.dv0 {A : Option Addr} {n c : Nat} (H : Sl w0 w ps) (i : Nat) (hi : ps[i]? = some (dvP b (.slice A n c) v1 xs xss) := by rfl) : Kd.C Kd.bool w A xs.length xs := by
  obtain ⟨f, ⟨h, g, hl⟩, hn, hg⟩ := H.get i hi
  exact (Kd.R_reads' h).2.2
theorem Sl.dv1 {A : Option Addr} {n c : Nat} (H : Sl w0 w ps) (i : Nat) (hi : ps[i]? = some (dvP b v0 (.slice A n c) xs xss) := by rfl) : Kd.C (Kd.slice 3 (Kd.int .i64)) w A xss.length xss := by
  obtain ⟨f, ⟨h, g, hl⟩, hn, hg⟩ := H.get i hi
  exact (Kd.S_reads' g).2.2
theorem Sl.markD (H : Sl w0 w ps) (i : Nat) (a : Int) (hi : ps[i]? = some (dvP w0.heap.size v0 v1 xs xss)) (hl : xs.length ≤ 2000000) (hx : xss.length ≤ 2000000) (hs : small xss) (ha : 0 ≤ a ∧ a ≤ 10000000000000) :
    Calls Try.prog 14 #[.agg #[v0, v1], .int .i64 a] w fun e w' => e = .returned (.int .i64 (mkK xss (a + xs.length))) ∧ Sl w0 w' (ps.set i (dvP w0.heap.size v0 v1 (mkB a xs) (mkRows xss (a + xs.length)))) := by
  obtain ⟨f, ⟨h, g, hlt⟩, hn, hg, hback⟩ := H.opn i hi
  refine (markDfaCalls _ _ v0 v1 xs xss a w0 w H.bel h g hl hx hs ha).mono ?_
  rintro e w' ⟨rfl, h0, h1, hB, hK⟩
  refine ⟨rfl, hback w' _ f hB ⟨h0, h1, fun k hk => Nat.lt_of_lt_of_le (hlt k hk) hK.1⟩ hn (fun k hk => Or.inl hk) (fun k hk hkf => hK.2 k hk (fun e => e.elim hkf hkf))⟩
end
section
variable {P : Program} {ops : Array Oper} {rest : List Oper} {o : Oper} {a : Act} {Q : Exit → Act → World → Prop} {w0 W : World} {ps : List Pc}
theorem p2_ (H : Sl w0 W ps) (p : Tmp) (i : Nat) {g : Nat} {x y x' y' : Value} {t t' : TypeId} {q : Operand} (ho : o.op = .store t' (.tmp p) q)
    (h : ∀ w1, Sl w0 w1 (ps.set i (bx g #[x', y'] t)) → wpList P ops Q rest a w1) (hi : ps[i]? = some (bx g #[x, y] t) := by rfl)
    (hrun : (execOp a.eval o).run P W = .ok .skip ((W.setCell ⟨g, 0, none⟩ x').setCell ⟨g, 1, none⟩ y') := by first | (go_simp; done) | (go_simp; rfl)) (hgd : o.guard = none := by rfl) (hN : o.dst = none := by rfl) : wpList P ops Q (o :: rest) a W := by
  refine wpList_plain hgd fun K hK => ?_
  unfold Oper.wp
  rw [hrun]
  show K (a.put o.dst undef) _
  rw [hN]
  have hl := (List.getElem?_eq_some_iff.1 hi).1
  have h1 := H.put i hi 0 x'
  have h2 := h1.put i (by rw [List.getElem?_set_self hl]) 1 y'
  rw [List.set_set] at h2
  exact hK _ _ (h _ h2)
end
end Go.Proofs.Ytpgdhpnmagmooaa
end
section
namespace Go.Proofs.Ytpgdhpnmagmooaa.P
open Go.RowKit Go.Proofs.YtpgdhpnmagmooaaW.PrintWords Go.Proofs.YtpgdhpnmagmooaaW.PrintLast Go.Proofs.YtpgdhpnmagmooaaW.PrintMore
attribute [local go_sem] max2_int min2_int max_two min_two max_three min_three max_four min_four
set_option linter.unusedVariables false
set_option linter.unusedSimpArgs false
def laws_eqStringS.l0 : Nat → List ByteArray → List ByteArray → Int → Option (Bool)
  | 0, _, _, _ => none
  | k + 1, x0, x1, x5 => if x5 < (x0.length : Int) then (if 0 ≤ x5 then (if x5 < (x1.length : Int) then (if (rdOf ByteArray.empty x0 x5).toList = (rdOf ByteArray.empty x1 x5).toList then (laws_eqStringS.l0 k x0 x1 (wrap64 (x5 + 1))) else (some false)) else (none)) else (none)) else (some true)
def laws_eqStringS.f (k : Nat) (l0 : List ByteArray) (l1 : List ByteArray) : Option (Bool) := if (l0.length : Int) = (l1.length : Int) then (laws_eqStringS.l0 k l0 l1 0) else (some false)
theorem laws_eqStringS.mono_l : ∀ k, (∀ y0 y1 y2, LeO (laws_eqStringS.l0 k y0 y1 y2) (laws_eqStringS.l0 (k + 1) y0 y1 y2))
  | 0 => fun _ _ _ r h => by simp [laws_eqStringS.l0] at h
  | k + 1 => by
    have ih0 := laws_eqStringS.mono_l k
    · intro y0 y1 y2
      unfold laws_eqStringS.l0
      repeat' first
      | (with_reducible exact ih0 _ _ _)
      | (with_reducible exact LeO.refl _)
      | (with_reducible exact LeO.none _)
      | (with_reducible refine LeO.ite ?_ ?_)
      | (with_reducible refine LeO.bind ?_ (fun _ => ?_))
      | exact ih0 _ _ _
      | exact LeO.none _
      | refine LeO.ite ?_ ?_
      | refine LeO.bind ?_ (fun _ => ?_)
theorem laws_eqStringS.mono : ∀ a0 a1 k, LeO (laws_eqStringS.f k a0 a1) (laws_eqStringS.f (k + 1) a0 a1) := by
  intro a0 a1 k
  have ih0 := laws_eqStringS.mono_l k
  unfold laws_eqStringS.f
  repeat' first
      | (with_reducible exact ih0 _ _ _)
      | (with_reducible exact LeO.refl _)
      | (with_reducible exact LeO.none _)
      | (with_reducible refine LeO.ite ?_ ?_)
      | (with_reducible refine LeO.bind ?_ (fun _ => ?_))
      | exact ih0 _ _ _
      | exact LeO.none _
      | refine LeO.ite ?_ ?_
      | refine LeO.bind ?_ (fun _ => ?_)
set_option maxHeartbeats 8000000 in
set_option maxRecDepth 100000 in
theorem laws_eqStringS.calls (k : Nat) (A0 : Option Addr) (c0 : Nat) (l0 : List ByteArray) (A1 : Option Addr) (c1 : Nat) (l1 : List ByteArray) (r : Bool) (w : World) (hr0 : Kd.C Kd.string w A0 l0.length l0) (hc0 : l0.length ≤ c0) (hr1 : Kd.C Kd.string w A1 l1.length l1) (hc1 : l1.length ≤ c1) (h : laws_eqStringS.f k l0 l1 = some r) :
    Calls Try.prog 19 #[.slice A0 l0.length c0, .slice A1 l1.length c1] w fun e w' => e = .returned (.bool r) ∧ Drawn0 w w' := by
  have HR0 := am_ hr0
  have HC0 := am_ hc0
  clear hr0 hc0
  have HR1 := am_ hr1
  have HC1 := am_ hc1
  clear hr1 hc1
  have H : (if (l0.length : Int) = (l1.length : Int) then (laws_eqStringS.l0 k l0 l1 0) else (some false)) = some r := h
  clear h
  by_cases c3 : (l0.length : Int) = (l1.length : Int)
  · rw [if_pos c3] at H
    have c3b0 : ((l0.length : Int) == (l1.length : Int)) = true := beq_iff_eq.mpr c3
    have c3b1 : ((l0.length : Int) != (l1.length : Int)) = false := bne_eq_false_iff_eq.mpr c3
    have c3b2 : (l0.length == l1.length) = true := by first | simpa using c3 | (simp at c3 ⊢; omega)
    clear c3
    have H' := am_ H
    clear H
    go_enter Try.func19, Try.ntmps19
    go_wp2
    repeat (go_quiet (fail); try go_wp2)
    go_loopg [5] k (fun kq v5 w' => ∃ (aa : Int), v5 = .int .i64 aa ∧ Aside0 (laws_eqStringS.l0 kq l0 l1 aa = some r) ∧ Aside0 (kq ≤ k) ∧ Drawn0 w w')
    case atStart => exact ⟨(0), (by first | rfl | (simp; done) | (simp [*]; done)), H', ⟨Nat.le_refl _⟩, by repeat (first | exact Drawn0.refl _ | apply Drawn0.step)⟩
    case round =>
      clear H'
      try clear c1
      try clear p2
      try clear c3
      try clear c3b0
      try clear c3b1
      try clear c3b2
      obtain ⟨aa, rfl, HA, HK1, ⟨m1, rfl⟩⟩ := hrel
      cases gk with
      | zero => exact absurd HA.out (by simp [laws_eqStringS.l0])
      | succ k1 =>
        have H := HA.out
        clear HA
        simp only [laws_eqStringS.l0] at H
        by_cases c4 : aa < (l0.length : Int)
        · rw [if_pos c4] at H
          have c4b0 : decide (aa < (l0.length : Int)) = true := decide_eq_true c4
          clear c4
          by_cases c5 : 0 ≤ aa
          · rw [if_pos c5] at H
            have c5b0 : decide (0 ≤ aa) = true := decide_eq_true c5
            clear c5
            by_cases c6 : aa < (l1.length : Int)
            · rw [if_pos c6] at H
              have c6b0 : decide (aa < (l1.length : Int)) = true := decide_eq_true c6
              clear c6
              by_cases c7 : (rdOf ByteArray.empty l0 aa).toList = (rdOf ByteArray.empty l1 aa).toList
              · rw [if_pos c7] at H
                have c7b0 : ((rdOf ByteArray.empty l0 aa).toList == (rdOf ByteArray.empty l1 aa).toList) = true := beq_iff_eq.mpr c7
                have c7b1 : ((rdOf ByteArray.empty l0 aa).toList != (rdOf ByteArray.empty l1 aa).toList) = false := bne_eq_false_iff_eq.mpr c7
                clear c7
                have H' := am_ H
                clear H
                have p411 : 0 ≤ (aa : Int) := of_decide_eq_true ah_
                have q411 : aa < (l0.length : Int) := of_decide_eq_true ah_
                obtain ⟨aq, e411, ao⟩ := Kd.at_string HR0.out aa p411 q411
                cases e411
                replace p411 := eq_true p411
                replace q411 := eq_true q411
                have p412 : 0 ≤ (aa : Int) := of_decide_eq_true ah_
                have q412 : aa < (l1.length : Int) := of_decide_eq_true ah_
                obtain ⟨ar, e412, ap⟩ := Kd.at_string HR1.out aa p412 q412
                cases e412
                replace p412 := eq_true p412
                replace q412 := eq_true q412
                go_wp2
                repeat (go_quiet (fail); try go_wp2)
                go_roundg k1
                case measure => have := HK1.out; omega
                case rel => exact ⟨(wrap64 (aa + 1)), (by first | rfl | (simp; done) | (simp [*]; done)), H', ⟨by have := HK1.out; omega⟩, by repeat (first | exact Drawn0.refl _ | apply Drawn0.step)⟩
              · rw [if_neg c7] at H
                have c7b0 : ((rdOf ByteArray.empty l0 aa).toList == (rdOf ByteArray.empty l1 aa).toList) = false := beq_eq_false_iff_ne.mpr c7
                have c7b1 : ((rdOf ByteArray.empty l0 aa).toList != (rdOf ByteArray.empty l1 aa).toList) = true := bne_iff_ne.mpr c7
                obtain rfl := Option.some.inj H
                simp only [Option.some.injEq, Prod.mk.injEq] at H
                obtain ⟨rfl⟩ := H
                have p411 : 0 ≤ (aa : Int) := of_decide_eq_true ah_
                have q411 : aa < (l0.length : Int) := of_decide_eq_true ah_
                obtain ⟨aq, e411, ao⟩ := Kd.at_string HR0.out aa p411 q411
                cases e411
                replace p411 := eq_true p411
                replace q411 := eq_true q411
                have p412 : 0 ≤ (aa : Int) := of_decide_eq_true ah_
                have q412 : aa < (l1.length : Int) := of_decide_eq_true ah_
                obtain ⟨ar, e412, ap⟩ := Kd.at_string HR1.out aa p412 q412
                cases e412
                replace p412 := eq_true p412
                replace q412 := eq_true q412
                go_wp2
                repeat (go_quiet (fail); try go_wp2)
                go_ret
                exact ⟨by first | rfl | (simp; done) | (simp [*]; done), by repeat (first | exact Drawn0.refl _ | apply Drawn0.step)⟩
            · rw [if_neg c6] at H
              exact absurd H (by simp)
          · rw [if_neg c5] at H
            exact absurd H (by simp)
        · rw [if_neg c4] at H
          have c4b0 : decide (aa < (l0.length : Int)) = false := decide_eq_false c4
          clear c4
          obtain rfl := Option.some.inj H
          simp only [Option.some.injEq, Prod.mk.injEq] at H
          obtain ⟨rfl⟩ := H
          go_wp2
          repeat (go_quiet (fail); try go_wp2)
          go_ret
          exact ⟨by first | rfl | (simp; done) | (simp [*]; done), by repeat (first | exact Drawn0.refl _ | apply Drawn0.step)⟩
  · rw [if_neg c3] at H
    have c3b0 : ((l0.length : Int) == (l1.length : Int)) = false := beq_eq_false_iff_ne.mpr c3
    have c3b1 : ((l0.length : Int) != (l1.length : Int)) = true := bne_iff_ne.mpr c3
    have c3b2 : (l0.length == l1.length) = false := by first | simpa using c3 | (simp at c3 ⊢; omega)
    obtain rfl := Option.some.inj H
    simp only [Option.some.injEq, Prod.mk.injEq] at H
    obtain ⟨rfl⟩ := H
    go_enter Try.func19, Try.ntmps19
    go_wp2
    repeat (go_quiet (fail); try go_wp2)
    go_ret
    exact ⟨by first | rfl | (simp; done) | (simp [*]; done), by repeat (first | exact Drawn0.refl _ | apply Drawn0.step)⟩
def laws_markText.l0 : Nat → Int → ByteArray → Option (ByteArray)
  | 0, _, _ => none
  | k + 1, x0, x3 => if x0 > 0 then ((some (([(wrap64 (48 + (Int.tmod x0 10))) % 256] : List Int) : List Int)).bind fun ai => (if (strOfNums ai).size + x3.size ≤ 9223372036854775807 then (laws_markText.l0 k (wrap64 (Int.tdiv x0 10)) ((strOfNums ai) ++ x3)) else (none))) else (if 1 + x3.size ≤ 9223372036854775807 then (some ((⟨#[109]⟩ : ByteArray) ++ x3)) else (none))
def laws_markText.f (k : Nat) (a0 : Int) : Option (ByteArray) := if a0 ≤ 0 then (some (⟨#[109, 48]⟩ : ByteArray)) else (laws_markText.l0 k a0 (⟨#[]⟩ : ByteArray))
theorem laws_markText.mono_l : ∀ k, (∀ y0 y1, LeO (laws_markText.l0 k y0 y1) (laws_markText.l0 (k + 1) y0 y1))
  | 0 => fun _ _ r h => by simp [laws_markText.l0] at h
  | k + 1 => by
    have ih0 := laws_markText.mono_l k
    · intro y0 y1
      unfold laws_markText.l0
      repeat' first
      | (with_reducible exact ih0 _ _)
      | (with_reducible exact LeO.refl _)
      | (with_reducible exact LeO.none _)
      | (with_reducible refine LeO.ite ?_ ?_)
      | (with_reducible refine LeO.bind ?_ (fun _ => ?_))
      | exact ih0 _ _
      | exact LeO.none _
      | refine LeO.ite ?_ ?_
      | refine LeO.bind ?_ (fun _ => ?_)
theorem laws_markText.mono : ∀ a0 k, LeO (laws_markText.f k a0) (laws_markText.f (k + 1) a0) := by
  intro a0 k
  have ih0 := laws_markText.mono_l k
  unfold laws_markText.f
  repeat' first
      | (with_reducible exact ih0 _ _)
      | (with_reducible exact LeO.refl _)
      | (with_reducible exact LeO.none _)
      | (with_reducible refine LeO.ite ?_ ?_)
      | (with_reducible refine LeO.bind ?_ (fun _ => ?_))
      | exact ih0 _ _
      | exact LeO.none _
      | refine LeO.ite ?_ ?_
      | refine LeO.bind ?_ (fun _ => ?_)
theorem zp20_0_ {p q : Prop} (h : p) (c : p → q := by intro h_; repeat (first | (with_reducible first | exact h_ | apply below_alloc | apply pw_below_drewN | apply below_drew1) | exact h_)) : q := c h
theorem zp20_1_ {p q : Prop} (h : p) (c : p → q := by intro h_; repeat (first | (with_reducible first | exact h_ | apply Kept.alloc | apply Kept.drewN | apply Kept.drew) | exact h_)) : q := c h
set_option maxHeartbeats 8000000 in
set_option maxRecDepth 100000 in
theorem laws_markText.calls (k : Nat) (a0 : Int) (r : ByteArray) (w : World) (h : laws_markText.f k a0 = some r) :
    Calls Try.prog 45 #[.int .i64 a0] w fun e w' => e = .returned (.string r) ∧ Below w.heap.size w w' := by
  have HB := am_ (Below.refl w.heap.size w)
  have H : (if a0 ≤ 0 then (some (⟨#[109, 48]⟩ : ByteArray)) else (laws_markText.l0 k a0 (⟨#[]⟩ : ByteArray))) = some r := h
  clear h
  by_cases c2 : a0 ≤ 0
  · rw [if_pos c2] at H
    have c2b0 : decide (a0 ≤ 0) = true := decide_eq_true c2
    clear c2
    obtain rfl := Option.some.inj H
    simp only [Option.some.injEq, Prod.mk.injEq] at H
    obtain ⟨rfl⟩ := H
    go_enter Try.func45, Try.ntmps45
    go_wp2
    go_ret
    exact ⟨by first | rfl | (simp [errW_none, errW_some] <;> rfl) | (simp [*, errW_none, errW_some] <;> rfl), by exact zp20_0_ HB.out⟩
  · rw [if_neg c2] at H
    have c2b0 : decide (a0 ≤ 0) = false := decide_eq_false c2
    clear c2
    have H' := am_ H
    clear H
    go_enter Try.func45, Try.ntmps45
    go_wp2
    go_loopg [0, 3] k (fun kq v0 v3 w' => ∃ (ab : Int) (ah : ByteArray), v0 = .int .i64 ab ∧ v3 = .string ah ∧ Aside0 (laws_markText.l0 kq ab ah = some r) ∧ Aside0 (kq ≤ k) ∧ Aside0 (Below w.heap.size w w'))
    case atStart => exact ⟨(a0), ((⟨#[]⟩ : ByteArray)), (by first | rfl | (simp; done) | (simp [*]; done)), (by first | rfl | (simp; done) | (simp [*]; done)), H', ⟨Nat.le_refl _⟩, ⟨by exact zp20_0_ HB.out⟩⟩
    case round =>
      clear H'
      try clear c2
      try clear c2b0
      try clear p2
      obtain ⟨ab, ah, rfl, rfl, HA, HK1, HB⟩ := hrel
      cases gk with
      | zero => exact absurd HA.out (by simp [laws_markText.l0])
      | succ k1 =>
        have H := HA.out
        clear HA
        simp only [laws_markText.l0] at H
        by_cases c3 : ab > 0
        · rw [if_pos c3] at H
          have c3b0 : decide (0 < ab) = true := decide_eq_true c3
          clear c3
          obtain ⟨ai, hy413⟩ : ∃ y_ : List Int, y_ = (([(wrap64 (48 + (Int.tmod ab 10))) % 256] : List Int)) := ⟨_, rfl⟩
          replace H : (if (strOfNums ai).size + ah.size ≤ 9223372036854775807 then (laws_markText.l0 k1 (wrap64 (Int.tdiv ab 10)) ((strOfNums ai) ++ ah)) else (none)) = some r := by first | (rw [hy413]; with_reducible exact H) | (have H2_ := (Option.bind_some _ _).symm.trans H; rw [hy413]; with_reducible exact H2_) | (have H2_ := (Option.bind_some _ _).symm.trans H; with_reducible exact H2_) | with_reducible exact H | (rw [hy413]; exact H) | exact H
          have an := am_ hy413
          clear hy413
          by_cases c4 : (strOfNums ai).size + ah.size ≤ 9223372036854775807
          · rw [if_pos c4] at H
            have c4b0 := eq_true c4
            have c4b1 : decide ((strOfNums ai).size + ah.size ≤ 9223372036854775807) = true := decide_eq_true c4
            try have c4b2 : (9223372036854775807 < (strOfNums ai).size + ah.size) = False := eq_false (Nat.not_lt.2 c4)
            have H' := am_ H
            clear H
            go_wp2_with (first | ((with_reducible refine gate_dst (N := 12) rfl ?_); refine Kd.R_lit (Kd.int .u8) _ 5 ?hg (N := 12) ?hd (xs := ([(wrap64 (48 + (Int.tmod ab 10))) % 256] : List Int)) (inner := [.int .u8 ((wrap64 (48 + (Int.tmod ab 10))) % 256)]) (ok := fun _ => True) (okp := fun _ => True) ?hr ?hp (fun _ hk => hk) trivial (Below.refl _ _) (Nat.le_refl _) (by simp) ?_; (case hd => rfl); (case hg => rfl); (case hr => first | (go_simp; done) | (go_simp; rfl)); (case hp => exact (Reps.one (show Kd.M (Kd.int .u8) _ _ _ ((wrap64 (48 + (Int.tmod ab 10))) % 256) [.int .u8 ((wrap64 (48 + (Int.tmod ab 10))) % 256)] from rfl) (Reps.none _ _))); intro ay w5 ho6 hb hg_ hnew_; clear hg_ hnew_; (first | rw [← an.out] at ho6 | (simp only [Int.reduceToNat] at ho6; rw [← an.out] at ho6)); replace au := am_ (Kd.R_lower ho6 (below_size (b0_ HB.out))); replace HB := am_ (below_step (b0_ HB.out) hb); clear hb ho6; have hcv7 := own_string (P := Try.prog) Try.underlying73 Try.underlying5 Try.underlying9 (Kd.own_of_R au.out)))
            go_roundg k1
            case measure => have := HK1.out; omega
            case rel => exact ⟨(wrap64 (Int.tdiv ab 10)), ((strOfNums ai) ++ ah), (by first | rfl | (simp; done) | (simp [*]; done)), (by first | rfl | (simp; done) | (simp [*]; done)), H', ⟨by have := HK1.out; omega⟩, ⟨by exact zp20_0_ HB.out⟩⟩
          · rw [if_neg c4] at H
            exact absurd H (by simp)
        · rw [if_neg c3] at H
          have c3b0 : decide (0 < ab) = false := decide_eq_false c3
          clear c3
          by_cases c8 : 1 + ah.size ≤ 9223372036854775807
          · rw [if_pos c8] at H
            have c8b0 := eq_true c8
            have c8b1 : decide (1 + ah.size ≤ 9223372036854775807) = true := decide_eq_true c8
            try have c8b2 : (9223372036854775807 < 1 + ah.size) = False := eq_false (Nat.not_lt.2 c8)
            obtain rfl := Option.some.inj H
            simp only [Option.some.injEq, Prod.mk.injEq] at H
            obtain ⟨rfl⟩ := H
            go_wp2
            go_ret
            exact ⟨by first | rfl | (simp [errW_none, errW_some] <;> rfl) | (simp [*, errW_none, errW_some] <;> rfl), by exact zp20_0_ HB.out⟩
          · rw [if_neg c8] at H
            exact absurd H (by simp)
def laws_markStringS.l0 : Nat → List ByteArray → Int → Int → Option (Int × List ByteArray)
  | 0, _, _, _ => none
  | k + 1, x0, x1, x5 => if x5 < (x0.length : Int) then ((laws_markText.f k x1).bind fun ak => (if 0 ≤ x5 then (laws_markStringS.l0 k (x0.set (x5 : Int).toNat ak) (wrap64 (x1 + 1)) (wrap64 (x5 + 1))) else (none))) else (some (x1, x0))
def laws_markStringS.f (k : Nat) (l0 : List ByteArray) (a1 : Int) : Option (Int × List ByteArray) := laws_markStringS.l0 k l0 a1 0
theorem laws_markStringS.mono_l : ∀ k, (∀ y0 y1 y2, LeO (laws_markStringS.l0 k y0 y1 y2) (laws_markStringS.l0 (k + 1) y0 y1 y2))
  | 0 => fun _ _ _ r h => by simp [laws_markStringS.l0] at h
  | k + 1 => by
    have ih0 := laws_markStringS.mono_l k
    · intro y0 y1 y2
      unfold laws_markStringS.l0
      repeat' first
      | (with_reducible exact ih0 _ _ _)
      | (with_reducible exact laws_markText.mono _ _)
      | (with_reducible exact LeO.refl _)
      | (with_reducible exact LeO.none _)
      | (with_reducible refine LeO.ite ?_ ?_)
      | (with_reducible refine LeO.bind ?_ (fun _ => ?_))
      | exact ih0 _ _ _
      | exact laws_markText.mono _ _
      | exact LeO.none _
      | refine LeO.ite ?_ ?_
      | refine LeO.bind ?_ (fun _ => ?_)
theorem laws_markStringS.mono : ∀ a0 a1 k, LeO (laws_markStringS.f k a0 a1) (laws_markStringS.f (k + 1) a0 a1) := by
  intro a0 a1 k
  have ih0 := laws_markStringS.mono_l k
  unfold laws_markStringS.f
  repeat' first
      | (with_reducible exact ih0 _ _ _)
      | (with_reducible exact laws_markText.mono _ _)
      | (with_reducible exact LeO.refl _)
      | (with_reducible exact LeO.none _)
      | (with_reducible refine LeO.ite ?_ ?_)
      | (with_reducible refine LeO.bind ?_ (fun _ => ?_))
      | exact ih0 _ _ _
      | exact laws_markText.mono _ _
      | exact LeO.none _
      | refine LeO.ite ?_ ?_
      | refine LeO.bind ?_ (fun _ => ?_)
set_option maxHeartbeats 8000000 in
set_option maxRecDepth 100000 in
theorem laws_markStringS.calls (k : Nat) (P0_ : Nat → Prop) (u9000_ : Value) (l0 : List ByteArray) (a1 : Int) (r1 : Int) (r2 : List ByteArray) (w0 w : World) (hB : Below w0.heap.size w0 w) (ho0 : Kd.R Kd.string 9 w w0.heap.size P0_ u9000_ l0) (h : laws_markStringS.f k l0 a1 = some (r1, r2)) :
    Calls Try.prog 20 #[u9000_, .int .i64 a1] w fun e w' => e = .returned (.int .i64 r1) ∧ Kd.R Kd.string 9 w' w0.heap.size (fun k_ => (P0_ k_ ∨ w.heap.size ≤ k_)) u9000_ r2 ∧ Below w0.heap.size w0 w' ∧ Kept w w' (fun k_ => P0_ k_) := by
  have HO0 := am_ (show Kd.R Kd.string 9 w w0.heap.size (fun k_ => (P0_ k_ ∨ w.heap.size ≤ k_)) u9000_ l0 from Kd.R_mono ho0 (fun k_ hk => (.inl hk)))
  have HK := am_ (Kept.refl w (fun k_ => P0_ k_))
  have HW0 := am_ hB.size
  have HB := am_ hB
  clear hB
  have H : (laws_markStringS.l0 k l0 a1 0) = some (r1, r2) := h
  clear h
  have H' := am_ H
  clear H
  go_enter Try.func20, Try.ntmps20
  go_wp2
  go_loopg [1, 5] k (fun kq v1 v5 w' => ∃ (ab : List ByteArray) (af : Int) (aa : Int), v1 = .int .i64 af ∧ v5 = .int .i64 aa ∧ Aside0 (laws_markStringS.l0 kq ab af aa = some (r1, r2)) ∧ Aside0 (kq ≤ k) ∧ Aside0 (Kd.R Kd.string 9 w' w0.heap.size (fun k_ => (P0_ k_ ∨ w.heap.size ≤ k_)) u9000_ ab) ∧ Aside0 (Kept w w' (fun k_ => P0_ k_)) ∧ Aside0 (Below w0.heap.size w0 w'))
  case atStart => exact ⟨(l0), (a1), (0), (by first | rfl | (simp; done) | (simp [*]; done)), (by first | rfl | (simp; done) | (simp [*]; done)), H', ⟨Nat.le_refl _⟩, ⟨by refine rr_ ?_; exact HO0.out⟩, ⟨by exact zp20_1_ HK.out⟩, ⟨by exact zp20_0_ HB.out⟩⟩
  case round =>
    clear H'
    try clear c2
    try clear p2
    obtain ⟨ab, af, aa, rfl, rfl, HA, HK1, ag, HK, HB⟩ := hrel
    cases gk with
    | zero => exact absurd HA.out (by simp [laws_markStringS.l0])
    | succ k1 =>
      have H := HA.out
      clear HA
      simp only [laws_markStringS.l0] at H
      by_cases c3 : aa < (ab.length : Int)
      · rw [if_pos c3] at H
        have c3b0 : decide (aa < (ab.length : Int)) = true := decide_eq_true c3
        clear c3
        replace H := Option.bind_eq_some_iff.mp H
        obtain ⟨ak, A40, H⟩ := H
        have A4 := am_ A40
        clear A40
        by_cases c5 : 0 ≤ aa
        · rw [if_pos c5] at H
          have c5b0 : decide (0 ≤ aa) = true := decide_eq_true c5
          clear c5
          obtain ⟨am, hy417⟩ : ∃ y_ : List ByteArray, y_ = (ab.set (aa : Int).toNat ak) := ⟨_, rfl⟩
          replace H : (laws_markStringS.l0 k1 am (wrap64 (af + 1)) (wrap64 (aa + 1))) = some (r1, r2) := by first | (rw [hy417]; with_reducible exact H) | (have H2_ := (Option.bind_some _ _).symm.trans H; rw [hy417]; with_reducible exact H2_) | (have H2_ := (Option.bind_some _ _).symm.trans H; with_reducible exact H2_) | with_reducible exact H | (rw [hy417]; exact H) | exact H
          have av := am_ hy417
          clear hy417
          have H' := am_ H
          clear H
          obtain ⟨Ao7, co7, eo7⟩ := Kd.R_slice ag.out
          subst eo7
          go_wp2_with (first | ((with_reducible refine gate_callee (f := 45) rfl ?_); refine gL_ (some 15) Try.func45 #[.int .i64 af] ?_; (with_reducible refine (laws_markText.calls k1 af ak _ A4.out).mono ?_); rintro e w8 ⟨rfl, hb⟩; refine ⟨_, rfl, ?_⟩; have n0_ := am_ (Kd.R_below (rr_ ag.out) hb); have n1_ := am_ (Kept.below (S := (fun k_ => P0_ k_)) (zp20_1_ HK.out) hb); have n2_ := am_ (below_step (b0_ HB.out) hb); clear ag; clear HK; clear HB; have ag := n0_; have HK := n1_; have HB := n2_; clear n0_ n1_ n2_; (try clear hb); (try clear hb2); (try clear hk); (try clear hi); have p6 : 0 ≤ (aa : Int) := of_decide_eq_true ah_; have q6 : (aa : Int) < ((ab.length : Int) : Int) := of_decide_eq_true ah_; obtain ⟨go6, co6, eo6, gb6, gl6, cl6, HG6⟩ := Kd.R_form ag.out (by omega); (first | cases eo6 | (injection eo6 with ea_ en_ ec_; (first | subst ea_ | (injection ea_ with ea_; subst ea_)); subst ec_; clear en_)); have GB6 := am_ gb6; have GG6 := am_ HG6; clear gb6 gl6 HG6; have HMgo6 := am_ (show (P0_ go6 ∨ w.heap.size ≤ go6) from (ag.out.1 _ rfl)); obtain ⟨ax, hf6_0⟩ := Kd.R_celln (⟨#[]⟩ : ByteArray) ag.out (aa : Int) p6 q6; replace p6 := eq_true p6; replace q6 := eq_true q6; obtain ⟨hy9_, hz9_⟩ := Kd.R_celln (⟨#[]⟩ : ByteArray) ag.out (aa : Int) (of_decide_eq_true ah_) (of_decide_eq_true ah_); have HP9 := Kd.R_putg ag.out (aa : Int) ak) | ((with_reducible refine gate_store (t := 9) (p := 16) rfl ?_); refine store_event (t := 9) (p := 16) (v := ?vo_w10) (w1 := (w8.setCell ⟨go6, (aa : Int).toNat, none⟩ (.string ak))) ?hg ?ho ?hn ?hr ?_; (case ho => rfl); (case hg => rfl); (case hn => rfl); (case hr => first | (go_simp; done) | (go_simp; rfl)); intro w10 hw; have hg : w8.grownBy w10 (some go6) := (by rw [hw]; exact HP9.2); have hp_ : Kd.R Kd.string 9 w10 w0.heap.size (fun k_ => (P0_ k_ ∨ w.heap.size ≤ k_)) (.slice (some ⟨go6, 0, none⟩) ab.length co7) am := (by rw [hw, av.out]; exact HP9.1); clear HP9; have n0_ := am_ (hp_); have n1_ := am_ ((by rw [hw]; exact below_set (HB.out) GB6.out : Below w0.heap.size w0 w10)); have n2_ := am_ (Kept.of_grown (S := (fun k_ => P0_ k_)) hg (zp20_1_ HK.out) (fun k_ e_ => (ag.out.1 k_ e_))); clear ag; clear HB; clear HK; have ag := n0_; have HB := n1_; have HK := n2_; clear n0_ n1_ n2_; clear hg hw hp_))
          go_roundg k1
          case measure => have := HK1.out; omega
          case rel => exact ⟨(am), (wrap64 (af + 1)), (wrap64 (aa + 1)), (by first | rfl | (simp; done) | (simp [*]; done)), (by first | rfl | (simp; done) | (simp [*]; done)), H', ⟨by have := HK1.out; omega⟩, ⟨by refine rr_ ?_; exact ag.out⟩, ⟨by exact zp20_1_ HK.out⟩, ⟨by exact zp20_0_ HB.out⟩⟩
        · rw [if_neg c5] at H
          exact absurd H (by simp)
      · rw [if_neg c3] at H
        have c3b0 : decide (aa < (ab.length : Int)) = false := decide_eq_false c3
        clear c3
        simp only [Option.some.injEq, Prod.mk.injEq] at H
        obtain ⟨rfl, rfl⟩ := H
        obtain ⟨az, aA, aw⟩ := Kd.R_slice ag.out
        subst aw
        go_wp2
        go_ret
        exact ⟨by first | rfl | (simp [errW_none, errW_some] <;> rfl) | (simp [*, errW_none, errW_some] <;> rfl), by refine rr_ ?_; exact ag.out, by exact zp20_0_ HB.out, by exact zp20_1_ HK.out⟩
def laws_heldStringS.l0 : Nat → List ByteArray → Int → Int → Option (Int)
  | 0, _, _, _ => none
  | k + 1, x0, x1, x5 => if x5 < (x0.length : Int) then (if 0 ≤ x5 then ((laws_markText.f k x1).bind fun aj => (if (rdOf ByteArray.empty x0 x5).toList = aj.toList then (laws_heldStringS.l0 k x0 (wrap64 (x1 + 1)) (wrap64 (x5 + 1))) else (some (-1)))) else (none)) else (some x1)
def laws_heldStringS.f (k : Nat) (l0 : List ByteArray) (a1 : Int) : Option (Int) := laws_heldStringS.l0 k l0 a1 0
theorem laws_heldStringS.mono_l : ∀ k, (∀ y0 y1 y2, LeO (laws_heldStringS.l0 k y0 y1 y2) (laws_heldStringS.l0 (k + 1) y0 y1 y2))
  | 0 => fun _ _ _ r h => by simp [laws_heldStringS.l0] at h
  | k + 1 => by
    have ih0 := laws_heldStringS.mono_l k
    · intro y0 y1 y2
      unfold laws_heldStringS.l0
      repeat' first
      | (with_reducible exact ih0 _ _ _)
      | (with_reducible exact laws_markText.mono _ _)
      | (with_reducible exact LeO.refl _)
      | (with_reducible exact LeO.none _)
      | (with_reducible refine LeO.ite ?_ ?_)
      | (with_reducible refine LeO.bind ?_ (fun _ => ?_))
      | exact ih0 _ _ _
      | exact laws_markText.mono _ _
      | exact LeO.none _
      | refine LeO.ite ?_ ?_
      | refine LeO.bind ?_ (fun _ => ?_)
theorem laws_heldStringS.mono : ∀ a0 a1 k, LeO (laws_heldStringS.f k a0 a1) (laws_heldStringS.f (k + 1) a0 a1) := by
  intro a0 a1 k
  have ih0 := laws_heldStringS.mono_l k
  unfold laws_heldStringS.f
  repeat' first
      | (with_reducible exact ih0 _ _ _)
      | (with_reducible exact laws_markText.mono _ _)
      | (with_reducible exact LeO.refl _)
      | (with_reducible exact LeO.none _)
      | (with_reducible refine LeO.ite ?_ ?_)
      | (with_reducible refine LeO.bind ?_ (fun _ => ?_))
      | exact ih0 _ _ _
      | exact laws_markText.mono _ _
      | exact LeO.none _
      | refine LeO.ite ?_ ?_
      | refine LeO.bind ?_ (fun _ => ?_)
set_option maxHeartbeats 8000000 in
set_option maxRecDepth 100000 in
theorem laws_heldStringS.calls (k : Nat) (A0 : Option Addr) (c0 : Nat) (l0 : List ByteArray) (a1 : Int) (r : Int) (w : World) (hr0 : Kd.C Kd.string w A0 l0.length l0) (hc0 : l0.length ≤ c0) (h : laws_heldStringS.f k l0 a1 = some r) :
    Calls Try.prog 21 #[.slice A0 l0.length c0, .int .i64 a1] w fun e w' => e = .returned (.int .i64 r) ∧ Below w.heap.size w w' := by
  have HR0 := am_ hr0
  have HC0 := am_ hc0
  clear hr0 hc0
  have HB := am_ (Below.refl w.heap.size w)
  have H : (laws_heldStringS.l0 k l0 a1 0) = some r := h
  clear h
  have H' := am_ H
  clear H
  go_enter Try.func21, Try.ntmps21
  go_wp2
  go_loopg [1, 5] k (fun kq v1 v5 w' => ∃ (af : Int) (aa : Int), v1 = .int .i64 af ∧ v5 = .int .i64 aa ∧ Aside0 (laws_heldStringS.l0 kq l0 af aa = some r) ∧ Aside0 (kq ≤ k) ∧ Aside0 (Below w.heap.size w w'))
  case atStart => exact ⟨(a1), (0), (by first | rfl | (simp; done) | (simp [*]; done)), (by first | rfl | (simp; done) | (simp [*]; done)), H', ⟨Nat.le_refl _⟩, ⟨by exact zp20_0_ HB.out⟩⟩
  case round =>
    clear H'
    try clear c2
    try clear p2
    obtain ⟨af, aa, rfl, rfl, HA, HK1, HB⟩ := hrel
    cases gk with
    | zero => exact absurd HA.out (by simp [laws_heldStringS.l0])
    | succ k1 =>
      have H := HA.out
      clear HA
      simp only [laws_heldStringS.l0] at H
      by_cases c3 : aa < (l0.length : Int)
      · rw [if_pos c3] at H
        have c3b0 : decide (aa < (l0.length : Int)) = true := decide_eq_true c3
        clear c3
        by_cases c4 : 0 ≤ aa
        · rw [if_pos c4] at H
          have c4b0 : decide (0 ≤ aa) = true := decide_eq_true c4
          clear c4
          replace H := Option.bind_eq_some_iff.mp H
          obtain ⟨aj, A50, H⟩ := H
          have A5 := am_ A50
          clear A50
          by_cases c6 : (rdOf ByteArray.empty l0 aa).toList = aj.toList
          · rw [if_pos c6] at H
            have c6b0 : ((rdOf ByteArray.empty l0 aa).toList == aj.toList) = true := beq_iff_eq.mpr c6
            have c6b1 : ((rdOf ByteArray.empty l0 aa).toList != aj.toList) = false := bne_eq_false_iff_eq.mpr c6
            clear c6
            have H' := am_ H
            clear H
            try go_wp2
            replace HB := am_ (below_drew1 HB.out)
            have p418 : 0 ≤ (aa : Int) := of_decide_eq_true ah_
            have q418 : aa < (l0.length : Int) := of_decide_eq_true ah_
            obtain ⟨al, e418, ad⟩ := Kd.at_string HR0.out aa p418 q418
            have ae := ad
            cases e418
            replace ad := (HB.out.cell (World.block_lt_of_cell? w _ ad)).trans ad
            replace p418 := eq_true p418
            replace q418 := eq_true q418
            refine start_ (n := 7) (S := fun w' => w'.cell? (al.add (aa).toNat) = some (.string (rdOf ByteArray.empty l0 aa))) (ds := []) #[false, false, false, false, false, false, false] (by kernel_rfl) rfl rfl (((HB.out.cell (World.block_lt_of_cell? w _ ae)).trans ae)) (fun hHeld => ?_)
            generalize wr.drew = w7 at HB ad hHeld ⊢
            refine pure_ (i := 0) (N := some 12) (v := ?_) (a' := ?_) #[true, false, false, false, false, false, false] rfl rfl (by kernel_rfl) (fun _ _ _ h => h) (Or.inl ⟨by rfl, ?_⟩) ?_ ?_
            rotate_left
            · intro w'
              go_simp
              with_reducible rfl
            rotate_left
            · simp only [Act.put, List.setIfInBounds_toArray, List.set_cons_zero, List.set_cons_succ, i64_w, i32_w]
              rfl
            refine pure_ (i := 1) (N := some 13) (v := ?_) (a' := ?_) #[true, true, false, false, false, false, false] rfl rfl (by kernel_rfl) (fun _ _ _ h => h) (Or.inl ⟨by rfl, ?_⟩) ?_ ?_
            rotate_left
            · intro w'
              go_simp
              with_reducible rfl
            rotate_left
            · simp only [Act.put, List.setIfInBounds_toArray, List.set_cons_zero, List.set_cons_succ, i64_w, i32_w]
              rfl
            refine pure_ (i := 2) (N := some 14) (v := ?_) (a' := ?_) #[true, true, true, false, false, false, false] rfl rfl (by kernel_rfl) (fun _ _ _ h => h) (Or.inl ⟨by rfl, ?_⟩) ?_ ?_
            rotate_left
            · intro w'
              go_simp
              with_reducible rfl
            rotate_left
            · simp only [Act.put, List.setIfInBounds_toArray, List.set_cons_zero, List.set_cons_succ, i64_w, i32_w]
              rfl
            refine pure_ (i := 4) (N := some 16) (v := ?_) (a' := ?_) #[true, true, true, false, true, false, false] rfl rfl (by kernel_rfl) (fun _ _ _ h => h) (Or.inl ⟨by rfl, ?_⟩) ?_ ?_
            rotate_left
            · intro w'
              go_simp
              with_reducible rfl
            rotate_left
            · simp only [Act.put, List.setIfInBounds_toArray, List.set_cons_zero, List.set_cons_succ, i64_w, i32_w]
              rfl
            refine take_ (i := 3) (N := some 15) (v := ?_) (a' := ?_) #[true, true, true, true, true, false, false] rfl rfl (by kernel_rfl) (fun _ _ _ h => h) (Or.inl ⟨by rfl, ?_⟩) hHeld ?_ ?_
            rotate_left
            · intro w' s0
              go_simp
              with_reducible rfl
            rotate_left
            · simp only [Act.put, List.setIfInBounds_toArray, List.set_cons_zero, List.set_cons_succ, i64_w, i32_w]
              rfl
            refine one_ (i := 5) (N := some 17) #[true, true, true, true, true, true, false] rfl rfl (by kernel_rfl) (by decide) (fun K hK => ?_)
            refine gO_ Try.func45 #[.int .i64 af] ?_
            with_reducible refine (laws_markText.calls k1 af aj _ A5.out).mono ?_
            rintro e w8 ⟨rfl, hb⟩
            refine ⟨_, rfl, ?_⟩
            replace HB := am_ (below_step (b0_ HB.out) hb)
            (try clear hb)
            (try clear hb2)
            (try clear hk)
            (try clear hi)
            refine hK.out _ _ (((HB.out.cell (World.block_lt_of_cell? w _ ae)).trans ae)) (fun hHeld => ?_)
            clear hK K
            refine nm_ 17 ?_
            refine pure_ (i := 6) (N := some 18) (v := ?_) (a' := ?_) #[true, true, true, true, true, true, true] rfl rfl (by kernel_rfl) (fun _ _ _ h => h) (Or.inl ⟨by rfl, ?_⟩) ?_ ?_
            rotate_left
            · intro w'
              go_simp
              with_reducible rfl
            rotate_left
            · simp only [Act.put, List.setIfInBounds_toArray, List.set_cons_zero, List.set_cons_succ, i64_w, i32_w]
              rfl
            refine done_ (by kernel_rfl) ?_
            try go_wp2
            go_roundg k1
            case measure => have := HK1.out; omega
            case rel => exact ⟨(wrap64 (af + 1)), (wrap64 (aa + 1)), (by first | rfl | (simp; done) | (simp [*]; done)), (by first | rfl | (simp; done) | (simp [*]; done)), H', ⟨by have := HK1.out; omega⟩, ⟨by exact zp20_0_ HB.out⟩⟩
          · rw [if_neg c6] at H
            have c6b0 : ((rdOf ByteArray.empty l0 aa).toList == aj.toList) = false := beq_eq_false_iff_ne.mpr c6
            have c6b1 : ((rdOf ByteArray.empty l0 aa).toList != aj.toList) = true := bne_iff_ne.mpr c6
            obtain rfl := Option.some.inj H
            simp only [Option.some.injEq, Prod.mk.injEq] at H
            obtain ⟨rfl⟩ := H
            try go_wp2
            replace HB := am_ (below_drew1 HB.out)
            have p418 : 0 ≤ (aa : Int) := of_decide_eq_true ah_
            have q418 : aa < (l0.length : Int) := of_decide_eq_true ah_
            obtain ⟨al, e418, ad⟩ := Kd.at_string HR0.out aa p418 q418
            have ae := ad
            cases e418
            replace ad := (HB.out.cell (World.block_lt_of_cell? w _ ad)).trans ad
            replace p418 := eq_true p418
            replace q418 := eq_true q418
            refine start_ (n := 7) (S := fun w' => w'.cell? (al.add (aa).toNat) = some (.string (rdOf ByteArray.empty l0 aa))) (ds := []) #[false, false, false, false, false, false, false] (by kernel_rfl) rfl rfl (((HB.out.cell (World.block_lt_of_cell? w _ ae)).trans ae)) (fun hHeld => ?_)
            generalize wr.drew = w9 at HB ad hHeld ⊢
            refine pure_ (i := 0) (N := some 12) (v := ?_) (a' := ?_) #[true, false, false, false, false, false, false] rfl rfl (by kernel_rfl) (fun _ _ _ h => h) (Or.inl ⟨by rfl, ?_⟩) ?_ ?_
            rotate_left
            · intro w'
              go_simp
              with_reducible rfl
            rotate_left
            · simp only [Act.put, List.setIfInBounds_toArray, List.set_cons_zero, List.set_cons_succ, i64_w, i32_w]
              rfl
            refine pure_ (i := 1) (N := some 13) (v := ?_) (a' := ?_) #[true, true, false, false, false, false, false] rfl rfl (by kernel_rfl) (fun _ _ _ h => h) (Or.inl ⟨by rfl, ?_⟩) ?_ ?_
            rotate_left
            · intro w'
              go_simp
              with_reducible rfl
            rotate_left
            · simp only [Act.put, List.setIfInBounds_toArray, List.set_cons_zero, List.set_cons_succ, i64_w, i32_w]
              rfl
            refine pure_ (i := 2) (N := some 14) (v := ?_) (a' := ?_) #[true, true, true, false, false, false, false] rfl rfl (by kernel_rfl) (fun _ _ _ h => h) (Or.inl ⟨by rfl, ?_⟩) ?_ ?_
            rotate_left
            · intro w'
              go_simp
              with_reducible rfl
            rotate_left
            · simp only [Act.put, List.setIfInBounds_toArray, List.set_cons_zero, List.set_cons_succ, i64_w, i32_w]
              rfl
            refine pure_ (i := 4) (N := some 16) (v := ?_) (a' := ?_) #[true, true, true, false, true, false, false] rfl rfl (by kernel_rfl) (fun _ _ _ h => h) (Or.inl ⟨by rfl, ?_⟩) ?_ ?_
            rotate_left
            · intro w'
              go_simp
              with_reducible rfl
            rotate_left
            · simp only [Act.put, List.setIfInBounds_toArray, List.set_cons_zero, List.set_cons_succ, i64_w, i32_w]
              rfl
            refine take_ (i := 3) (N := some 15) (v := ?_) (a' := ?_) #[true, true, true, true, true, false, false] rfl rfl (by kernel_rfl) (fun _ _ _ h => h) (Or.inl ⟨by rfl, ?_⟩) hHeld ?_ ?_
            rotate_left
            · intro w' s0
              go_simp
              with_reducible rfl
            rotate_left
            · simp only [Act.put, List.setIfInBounds_toArray, List.set_cons_zero, List.set_cons_succ, i64_w, i32_w]
              rfl
            refine one_ (i := 5) (N := some 17) #[true, true, true, true, true, true, false] rfl rfl (by kernel_rfl) (by decide) (fun K hK => ?_)
            refine gO_ Try.func45 #[.int .i64 af] ?_
            with_reducible refine (laws_markText.calls k1 af aj _ A5.out).mono ?_
            rintro e w10 ⟨rfl, hb⟩
            refine ⟨_, rfl, ?_⟩
            replace HB := am_ (below_step (b0_ HB.out) hb)
            (try clear hb)
            (try clear hb2)
            (try clear hk)
            (try clear hi)
            refine hK.out _ _ (((HB.out.cell (World.block_lt_of_cell? w _ ae)).trans ae)) (fun hHeld => ?_)
            clear hK K
            refine nm_ 17 ?_
            refine pure_ (i := 6) (N := some 18) (v := ?_) (a' := ?_) #[true, true, true, true, true, true, true] rfl rfl (by kernel_rfl) (fun _ _ _ h => h) (Or.inl ⟨by rfl, ?_⟩) ?_ ?_
            rotate_left
            · intro w'
              go_simp
              with_reducible rfl
            rotate_left
            · simp only [Act.put, List.setIfInBounds_toArray, List.set_cons_zero, List.set_cons_succ, i64_w, i32_w]
              rfl
            refine done_ (by kernel_rfl) ?_
            try go_wp2
            go_ret
            exact ⟨by first | rfl | (simp [errW_none, errW_some] <;> rfl) | (simp [*, errW_none, errW_some] <;> rfl), by exact zp20_0_ HB.out⟩
        · rw [if_neg c4] at H
          exact absurd H (by simp)
      · rw [if_neg c3] at H
        have c3b0 : decide (aa < (l0.length : Int)) = false := decide_eq_false c3
        clear c3
        obtain rfl := Option.some.inj H
        simp only [Option.some.injEq, Prod.mk.injEq] at H
        obtain ⟨rfl⟩ := H
        go_wp2
        go_ret
        exact ⟨by first | rfl | (simp [errW_none, errW_some] <;> rfl) | (simp [*, errW_none, errW_some] <;> rfl), by exact zp20_0_ HB.out⟩
end Go.Proofs.Ytpgdhpnmagmooaa.P
end
section
namespace Go.Proofs.Ytpgdhpnmagmooaa.Pl
open Go.RowKit Go.Proofs.Ytpgdhpnmagmooaa.P Go.Proofs.YtpgdhpnmagmooaaW.PrintWords Go.Proofs.YtpgdhpnmagmooaaW.PrintLast Go.Proofs.YtpgdhpnmagmooaaW.PrintMore
set_option linter.unusedVariables false
set_option linter.unusedSimpArgs false
theorem sameStrs_l0 (a b : List ByteArray) (hl : a.length = b.length) (hn : a.length ≤ 140737488351232) : ∀ d i : Nat, i + d = a.length → Ev (fun k => laws_eqStringS.l0 k a b i) (decide (a.drop i = b.drop i)) := by
  intro d
  induction d with
  | zero =>
    intro i h
    refine next ?_
    simp only [laws_eqStringS.l0, if_neg (show ¬ (i : Int) < (a.length : Int) by omega)]
    exact ev_some (by rw [List.drop_eq_nil_of_le (by omega), List.drop_eq_nil_of_le (by omega)]; simp)
  | succ d ih =>
    intro i h
    refine next ?_
    have ha : i < a.length := by omega
    have hb : i < b.length := by omega
    simp only [laws_eqStringS.l0, if_pos (show (i : Int) < (a.length : Int) by omega), if_pos (show (0 : Int) ≤ i by omega), if_pos (show (i : Int) < (b.length : Int) by omega), rdOf_get _ a i ha, rdOf_get _ b i hb, toList_iff]
    have e : (a.drop i = b.drop i) ↔ (a[i] = b[i] ∧ a.drop (i + 1) = b.drop (i + 1)) := by
      rw [List.drop_eq_getElem_cons ha, List.drop_eq_getElem_cons hb]
      exact List.cons_eq_cons
    by_cases he : a[i] = b[i]
    · simp only [if_pos he, up1 (show i < 9223372036854775807 by omega)]
      exact ev_eq (ih (i + 1) (by omega)) (decide_eq_decide.mpr (by rw [e]; exact ⟨fun x => ⟨he, x⟩, fun x => x.2⟩))
    · simp only [if_neg he]
      exact ev_some (by rw [eq_comm, decide_eq_false_iff_not, e]; exact fun x => he x.1)
theorem sameStrs (a b : List ByteArray) (hn : a.length ≤ 140737488351232) : Ev (fun k => laws_eqStringS.f k a b) (decide (a = b)) := by
  simp only [laws_eqStringS.f]
  by_cases h : a.length = b.length
  · simp only [if_pos (show (a.length : Int) = (b.length : Int) by omega)]
    exact sameStrs_l0 a b h hn a.length 0 (by omega)
  · simp only [if_neg (show ¬ (a.length : Int) = (b.length : Int) by omega)]
    exact ev_some (by simp; intro e; exact h (by rw [e]))
theorem mark_l0 : ∀ (d : Nat) (n : Int) (x : ByteArray), n.toNat ≤ d → n ≤ 4611686018427387904 → n.toNat + x.size ≤ 9223372036854770000 → ∃ r, Ev (fun k => laws_markText.l0 k n x) r := by
  intro d
  induction d with
  | zero =>
    intro n x h h2 h3
    refine ⟨(⟨#[109]⟩ : ByteArray) ++ x, next ?_⟩
    simp only [laws_markText.l0, if_neg (show ¬ n > 0 by omega), if_pos (show 1 + x.size ≤ 9223372036854775807 by omega)]
    exact Ev.now _
  | succ d ih =>
    intro n x h h2 h3
    by_cases hp : n > 0
    · have hw : wrap64 (Int.tdiv n 10) = n / 10 := by
        rw [Int.tdiv_eq_ediv_of_nonneg (by omega), w64 (by omega) (by omega)]
      obtain ⟨r, hr⟩ := ih (n / 10) (strOfNums [(wrap64 (48 + (Int.tmod n 10))) % 256] ++ x) (by omega) (by omega) (by rw [ByteArray.size_append, size_strOf]; simp; omega)
      refine ⟨r, next ?_⟩
      simp only [laws_markText.l0, if_pos hp, Option.bind_some, size_strOf, List.length_cons, List.length_nil, if_pos (show 0 + 1 + x.size ≤ 9223372036854775807 by omega), hw]
      exact hr
    · refine ⟨(⟨#[109]⟩ : ByteArray) ++ x, next ?_⟩
      simp only [laws_markText.l0, if_neg hp, if_pos (show 1 + x.size ≤ 9223372036854775807 by omega)]
      exact Ev.now _
theorem mark_some (n : Int) (hn : n ≤ 4611686018427387904) : ∃ r, Ev (fun k => laws_markText.f k n) r := by
  simp only [laws_markText.f]
  by_cases h : n ≤ 0
  · simp only [if_pos h]
    exact ⟨_, Ev.now _⟩
  · simp only [if_neg h]
    exact mark_l0 n.toNat n _ (by omega) hn (by simp [ByteArray.size]; omega)
noncomputable def markOf (n : Int) : ByteArray := open Classical in if h : n ≤ 4611686018427387904 then (mark_some n h).choose else ByteArray.empty
theorem mark_ok (n : Int) (h : n ≤ 4611686018427387904) : Ev (fun k => laws_markText.f k n) (markOf n) := by
  simp only [markOf, h, dif_pos]
  exact (mark_some n h).choose_spec
noncomputable def marks (m : Nat) (n : Nat) : List ByteArray := (List.range m).map fun i => markOf ((n + i : Nat) : Int)
theorem markStrs_l0 (m : Nat) (hm : m ≤ 4611686018427387000) : ∀ (d i : Nat) (a : List ByteArray), i + d = m → a.length = m → (∀ j, j < i → a[j]? = (marks m 1)[j]?) → Ev (fun k => laws_markStringS.l0 k a ((i + 1 : Nat) : Int) i) (((m + 1 : Nat) : Int), marks m 1) := by
  intro d
  induction d with
  | zero =>
    intro i a h ha hj
    refine next ?_
    simp only [laws_markStringS.l0, if_neg (show ¬ (i : Int) < (a.length : Int) by omega)]
    have e : a = marks m 1 := by
      apply List.ext_getElem?
      intro j
      by_cases hlt : j < i
      · exact hj j hlt
      · rw [List.getElem?_eq_none (by omega), List.getElem?_eq_none (by simp [marks]; omega)]
    have e2 : i = m := by omega
    subst e
    subst e2
    exact Ev.now _
  | succ d ih =>
    intro i a h ha hj
    refine next ?_
    simp only [laws_markStringS.l0, if_pos (show (i : Int) < (a.length : Int) by omega)]
    refine Ev.bind (mark_ok _ (by omega)) ?_
    simp only [if_pos (show (0 : Int) ≤ i by omega), up1 (show i < 9223372036854775807 by omega), up1 (show i + 1 < 9223372036854775807 by omega), Int.toNat_natCast]
    refine ih (i + 1) _ (by omega) (by simp [ha]) ?_
    intro j hlt
    by_cases e : j = i
    · subst e
      rw [List.getElem?_set_self (by omega)]
      simp [marks, show j < m by omega]
      congr 1
      omega
    · rw [List.getElem?_set_ne (by omega)]
      exact hj j (by omega)
theorem markStrs (a : List ByteArray) (h : a.length ≤ 4611686018427387000) : Ev (fun k => laws_markStringS.f k a 1) (((a.length + 1 : Nat) : Int), marks a.length 1) := by
  simp only [laws_markStringS.f]
  exact markStrs_l0 a.length h a.length 0 a (by omega) rfl (by intro j hj; omega)
theorem heldStrs_l0 (m : Nat) (hm : m ≤ 4611686018427387000) : ∀ (d i : Nat), i + d = m → Ev (fun k => laws_heldStringS.l0 k (marks m 1) ((i + 1 : Nat) : Int) i) ((m + 1 : Nat) : Int) := by
  have hl : (marks m 1).length = m := by simp [marks]
  intro d
  induction d with
  | zero =>
    intro i h
    refine next ?_
    simp only [laws_heldStringS.l0, hl, if_neg (show ¬ (i : Int) < (m : Int) by omega)]
    have : i = m := by omega
    subst this
    exact Ev.now _
  | succ d ih =>
    intro i h
    refine next ?_
    simp only [laws_heldStringS.l0, hl, if_pos (show (i : Int) < (m : Int) by omega), if_pos (show (0 : Int) ≤ i by omega)]
    refine Ev.bind (mark_ok _ (by omega)) ?_
    have e : (rdOf ByteArray.empty (marks m 1) i).toList = (markOf ((i + 1 : Nat) : Int)).toList := by
      rw [rdOf_get _ _ i (by omega)]
      simp [marks]
      congr 2
      omega
    simp only [if_pos e, up1 (show i < 9223372036854775807 by omega), up1 (show i + 1 < 9223372036854775807 by omega)]
    exact ih (i + 1) (by omega)
theorem heldStrs (m : Nat) (h : m ≤ 4611686018427387000) : Ev (fun k => laws_heldStringS.f k (marks m 1) 1) ((m + 1 : Nat) : Int) := by
  simp only [laws_heldStringS.f]
  exact heldStrs_l0 m h m 0 (by omega)
end Go.Proofs.Ytpgdhpnmagmooaa.Pl
end
section
namespace Go.Proofs.Ytpgdhpnmagmooaa.Aw
open Go.RowKit Go.Shelf Go.Proofs.Ytpgdhpnmagmooaa Go.Proofs.Ytpgdhpnmagmooaa.P Go.Proofs.Ytpgdhpnmagmooaa.Pl Go.Proofs.Ytpgdhpnmagmooaa.Wk Go.Proofs.YtpgdhpnmagmooaaW.PrintWords Go.Proofs.YtpgdhpnmagmooaaW.PrintLast Go.Proofs.YtpgdhpnmagmooaaW.PrintMore
set_option linter.unusedVariables false
set_option linter.unusedSimpArgs false
def Taw : Bool × List (List Nat × List Nat) := (true, [([], []), ([], []), ([1], [1]), ([0, 2, 2], [0, 2]), ([3], [3])])
def Baw : List Nat := [0, 0, 2, 7, 15]
theorem tabaw : rtab .any (opsOf Try.f5 10) = Taw := by kernel_rfl
theorem bitsaw : waitsOk Taw.2 Baw = true := by kernel_rfl
theorem aw_l0 (a : List Bool) (n : List (List Int)) (ha : a.length ≤ 1048576) (hn : n.length ≤ 1048576) (L : List ByteArray) (hl : L.length ≤ 1000) (hs : ∀ x ∈ L, x.size ≤ 1000) : ∀ (d i : Nat) (out : List ByteArray), i + d = L.length → out.length ≤ i → Ev (fun k => spec_AcceptedWords.l0 k L out (i : Int) a n) (out ++ (L.drop i).filter (accOf a n))
  | 0, i, out, h, ho => by
    refine next ?_
    simp only [spec_AcceptedWords.l0, if_neg (show ¬ (i : Int) < (L.length : Int) by omega)]
    exact ev_some (by rw [List.drop_eq_nil_of_le (by omega)]; simp)
  | d + 1, i, out, h, ho => by
    have hi : i < L.length := by omega
    refine next ?_
    have hd : L.drop i = L[i] :: L.drop (i + 1) := List.drop_eq_getElem_cons hi
    have hx := hs L[i] (List.getElem_mem hi)
    simp only [spec_AcceptedWords.l0, if_pos (show (i : Int) < (L.length : Int) by omega), if_pos (show (0 : Int) ≤ (i : Int) by omega), rdOf_get _ L i hi]
    refine Ev.bind (spec_acc a n ha hn L[i] (by omega)) ?_
    rw [hd, List.filter_cons]
    cases e : accOf a n L[i] with
    | true =>
      simp only [if_true, if_pos (show out.length < 8796093022208 by omega), up1 (show i < 9223372036854775807 by omega)]
      refine ev_eq (aw_l0 a n ha hn L hl hs d (i + 1) (out ++ [L[i]]) (by omega) (by simp only [List.length_append, List.length_singleton]; omega)) ?_
      simp
    | false =>
      simp only [Bool.false_eq_true, if_false, up1 (show i < 9223372036854775807 by omega)]
      exact aw_l0 a n ha hn L hl hs d (i + 1) out (by omega) (by omega)
theorem spec_aw (a : List Bool) (n : List (List Int)) (ha : a.length ≤ 1048576) (hn : n.length ≤ 1048576) (most : Int) : Ev (fun k => spec_AcceptedWords.f k a n most) (if validD a n = true ∧ ¬ most < 0 then (Wu.upto (min most 5).toNat).filter (accOf a n) else []) := by
  simp only [spec_AcceptedWords.f]
  refine Ev.bind (Wu.spec_upto most) ?_
  by_cases h : most < 0
  · rw [if_pos h, if_neg (fun h' => h'.2 h)]
    have := aw_l0 a n ha hn [] (by simp) (by simp) 0 0 [] rfl (by simp)
    simpa using this
  · rw [if_neg h]
    have := aw_l0 a n ha hn (Wu.upto (min most 5).toNat) (Wu.len_upto _ (by omega)).1 (fun x hx => by have := (Wu.upto_words _ x hx).2; omega) (Wu.upto (min most 5).toNat).length 0 [] (by omega) (by simp)
    refine ev_eq this ?_
    simp only [List.nil_append, List.drop_zero]
    cases hv : validD a n with
    | true => rw [if_pos ⟨rfl, h⟩]
    | false =>
      rw [if_neg (fun h' => Bool.noConfusion h'.1)]
      refine List.filter_eq_nil_iff.2 (fun x hx => ?_)
      simp [accOf, hv]
theorem marks_len (m : Nat) : (marks m 1).length = m := by simp [marks]
theorem Sl.markS {w0 w : World} {ps : List Pc} {v : Value} {xs : List ByteArray} (H : Sl w0 w ps) (i : Nat) (hi : ps[i]? = some (rwP Kd.string 9 v xs)) (hl : xs.length ≤ 4000000000000) :
    Calls Try.prog 20 #[v, .int .i64 1] w fun e w' => e = .returned (.int .i64 ((xs.length + 1 : Nat) : Int)) ∧ Sl w0 w' (ps.set i (rwP Kd.string 9 v (marks xs.length 1))) := by
  obtain ⟨f, ⟨h, hlt⟩, hn, hg, hback⟩ := H.opn i hi
  obtain ⟨k, hk⟩ := (markStrs xs (by omega)).rounds
  refine (laws_markStringS.calls k (fun k => k ∈ f) v xs 1 _ _ w0 w H.bel (Kd.R_raise (b := 0) (fun _ _ _ _ h => h) h (fun k hk => hg k (h.1 k hk))) hk).mono ?_
  rintro e w' ⟨rfl, h0, hB, hK⟩
  refine ⟨rfl, hback w' _ (f ++ List.range' w.heap.size (w'.heap.size - w.heap.size)) hB ⟨Kd.R_mono (Kd.R_bound (Kd.R_lower h0 (Nat.zero_le _))) (fun k hk => in_new hk.1 hk.2.2.1), new_lt hlt hK.1⟩ (List.nodup_append.2 ⟨hn, List.nodup_range', fun a ha b hb' e => ?_⟩) (fun k hk => ?_) hK.2⟩
  · rw [List.mem_range'_1] at hb'
    have := hlt a ha
    omega
  · rcases List.mem_append.1 hk with hk | hk
    · exact Or.inl hk
    · rw [List.mem_range'_1] at hk
      exact Or.inr hk.1
theorem heldS {A : Option Addr} {c : Nat} {w : World} (m : Nat) (hm : m ≤ 4000000000000) (hc : m ≤ c) (hC : Kd.C Kd.string w A (marks m 1).length (marks m 1)) :
    Calls Try.prog 21 #[.slice A m c, .int .i64 1] w fun e w' => e = .returned (.int .i64 ((m + 1 : Nat) : Int)) ∧ Below w.heap.size w w' := by
  obtain ⟨k, hk⟩ := (heldStrs m (by omega)).rounds
  have h := laws_heldStringS.calls k A c (marks m 1) 1 _ w hC (by rw [marks_len]; exact hc) hk
  rw [marks_len] at h
  exact h
set_option maxHeartbeats 40000000 in
set_option maxRecDepth 100000 in
theorem lawAw (most : Int) (A0 : Option Addr) (c0 : Nat) (acc : List Bool) (A1 : Option Addr) (c1 : Nat) (nxt : List (List Int)) (w : World) (hr0 : Kd.C Kd.bool w A0 acc.length acc) (hc0 : acc.length ≤ c0) (hr1 : Kd.C (Kd.slice 3 (Kd.int .i64)) w A1 nxt.length nxt) (hc1 : nxt.length ≤ c1)
    (ha : acc.length ≤ 9223372036854775807) (hn : nxt.length ≤ 9223372036854775807) (hx : ∀ r ∈ nxt, r.length ≤ 9223372036854775807) :
    Calls Try.prog 5 #[.agg #[.slice A0 acc.length c0, .slice A1 nxt.length c1], .int .i64 most] w fun e w' => e = .returned (.bool true) ∧ Below w.heap.size w w' := by
  obtain ⟨sz, hsz, -, -, hsz2⟩ := szDfa acc nxt ha hn hx 1048576 (by omega) (by omega)
  obtain ⟨ks, hks⟩ := hsz.rounds
  have HKS := am_ hks
  have H := Sl.start w
  have HC0 := am_ (And.intro hr0 hc0)
  have HC1 := am_ (And.intro hr1 hc1)
  have hu := Try.underlying25
  have hu2 := Try.underlying28
  clear hr0 hc0 hr1 hc1 hks hsz ha hn hx
  by_cases hneg : sz < 0
  · clear hsz2
    have q1 : (sz < 0) = True := eq_true hneg
    clear hneg
    go_enter Try.func5, Try.ntmps5
    go_wp2_with (first
      | ((with_reducible refine gate_dst (N := 2) rfl ?_); refine nw_ H 2 #[.slice A0 acc.length c0, .slice A1 nxt.length c1] 25 rfl ?_; clear H; intro g1 w1 H; replace H := H.nz; have F0 := H.f2 0)
      | ((with_reducible refine gate_dst (N := 15) rfl ?_); refine gL_ (some 15) Try.func6 #[.agg #[.slice A0 acc.length c0, .slice A1 nxt.length c1], .int .i64 1048576] ?_; refine (laws_szDfa.calls ks A0 c0 acc A1 c1 nxt 1048576 sz _ (Kd.C_below HC0.out.1 H.bel) HC0.out.2 (Kd.C_below HC1.out.1 H.bel) HC1.out.2 HKS.out).mono ?_; rintro e w2 ⟨rfl, hb⟩; replace H := H.only hb; clear hb F0; refine ⟨_, rfl, ?_⟩))
    go_ret
    exact ⟨rfl, H.bel⟩
  · obtain ⟨s1, s2, s3⟩ := hsz2 (by omega)
    have q1 : (sz < 0) = False := eq_false hneg
    obtain ⟨W, hW⟩ : ∃ W, W = (if validD acc nxt = true ∧ ¬ most < 0 then (Wu.upto (min most 5).toNat).filter (accOf acc nxt) else []) := ⟨_, rfl⟩
    obtain ⟨kw, hsp⟩ := (spec_aw acc nxt s1 s2 most).rounds
    have him : ∀ A0 c0 A1 c1 w, Kd.C Kd.bool w A0 acc.length acc → acc.length ≤ c0 → Kd.C (Kd.slice 3 (Kd.int .i64)) w A1 nxt.length nxt → nxt.length ≤ c1 → Calls Try.prog 18 #[.agg #[.slice A0 acc.length c0, .slice A1 nxt.length c1], .int .i64 most] w fun e w' => ∃ v, e = .returned v ∧ Kd.R Kd.string 9 w' w.heap.size (fun _ => True) v W ∧ Below w.heap.size w w' := fun A0 c0 A1 c1 w a1 a2 a3 a4 => by rw [hW]; exact implAw most s1 a1 a2 a3 a4
    rw [← hW] at hsp
    have hrl : W.length ≤ 1000 := by
      rw [hW]
      split
      · exact Nat.le_trans (List.length_filter_le _ _) (Wu.len_upto _ (by omega)).1
      · simp
    clear hW
    obtain ⟨kt, hkt⟩ := (toDfa acc nxt s1 s2 s3).rounds
    obtain ⟨kd, hkd⟩ := (sameDfa acc nxt acc nxt s1 s2 s3).rounds
    have eb : (decide (acc = acc) && decide (nxt = nxt)) = true := by simp
    rw [eb] at hkd
    obtain ⟨ke, hke⟩ := (sameStrs W W (by omega)).rounds
    have ew : decide (W = W) = true := by simp
    rw [ew] at hke
    have hsm : small nxt := fun x hx => by have := s3 x hx; omega
    have hmk := mkK_bound nxt (1 + (acc.length : Int)) hsm
    have HS := am_ (And.intro s1 (And.intro s2 hsm))
    have HSP := am_ hsp
    have HIM := am_ him
    have HKT := am_ hkt
    have HKD := am_ hkd
    have HKE := am_ hke
    have HRL := am_ hrl
    have q2 : (mkK nxt (1 + (acc.length : Int)) < 0) = False := eq_false (by omega)
    have q3 : (((W.length + 1 : Nat) : Int) < 0) = False := eq_false (by omega)
    clear hneg hsz2 s1 s2 s3 hsp him hkt hkd hke hsm eb ew hrl hmk
    go_enter Try.func5, Try.ntmps5
    go_wp2_with (first
      | ((with_reducible refine gate_dst (N := 2) rfl ?_); refine nw_ H 2 #[.slice A0 acc.length c0, .slice A1 nxt.length c1] 25 rfl ?_; clear H; intro g1 w1 H; replace H := H.nz; have F0 := H.f2 0)
      | ((with_reducible refine gate_dst (N := 15) rfl ?_); refine gL_ (some 15) Try.func6 #[.agg #[.slice A0 acc.length c0, .slice A1 nxt.length c1], .int .i64 1048576] ?_; refine (laws_szDfa.calls ks A0 c0 acc A1 c1 nxt 1048576 sz _ (Kd.C_below HC0.out.1 H.bel) HC0.out.2 (Kd.C_below HC1.out.1 H.bel) HC1.out.2 HKS.out).mono ?_; rintro e w2 ⟨rfl, hb⟩; replace H := H.only hb; clear hb F0; have F0 := H.f2 0; refine ⟨_, rfl, ?_⟩)
      | ((with_reducible refine gate_dst (N := 19) rfl ?_); refine gL_ (some 19) Try.func8 #[.agg #[.slice A0 acc.length c0, .slice A1 nxt.length c1]] ?_; refine (laws_toDfa.calls kt A0 c0 acc A1 c1 nxt acc nxt _ (Kd.C_below HC0.out.1 H.bel) HC0.out.2 (Kd.C_below HC1.out.1 H.bel) HC1.out.2 HKT.out).mono ?_; rintro e w3 ⟨v0, v1, rfl, ho0, ho1, hb⟩; replace H := (H.newD hb ho0 ho1).nz; clear hb ho0 ho1 F0; (obtain ⟨B0, d0, B1, d1, rfl, rfl, l0, l1⟩ := H.dv 1); have HD1 := am_ (And.intro l0 l1); clear l0 l1; refine ⟨_, rfl, ?_⟩)
      | ((with_reducible refine gate_dst (N := 21) rfl ?_); refine gL_ (some 21) Try.func17 #[.agg #[.slice B0 acc.length d0, .slice B1 nxt.length d1], .int .i64 most] ?_; refine (spec_AcceptedWords.calls kw B0 d0 acc B1 d1 nxt most W _ (H.dv0 1) HD1.out.1 (H.dv1 1) HD1.out.2 HSP.out).mono ?_; rintro e w4 ⟨v, rfl, ho, hb⟩; replace H := (H.newR hb ho).nz; clear hb ho; (obtain ⟨AW, cW, rfl, lW, -⟩ := (H.rd 2).2); have HLW := am_ lW; clear lW; have F0 := H.f2 0; refine ⟨_, rfl, ?_⟩)
      | ((with_reducible refine gate_dst (N := 23) rfl ?_); refine gL_ (some 23) Try.func8 #[.agg #[.slice A0 acc.length c0, .slice A1 nxt.length c1]] ?_; refine (laws_toDfa.calls kt A0 c0 acc A1 c1 nxt acc nxt _ (Kd.C_below HC0.out.1 H.bel) HC0.out.2 (Kd.C_below HC1.out.1 H.bel) HC1.out.2 HKT.out).mono ?_; rintro e w3 ⟨v0, v1, rfl, ho0, ho1, hb⟩; replace H := (H.newD hb ho0 ho1).nz; clear hb ho0 ho1 F0; (obtain ⟨X0, e0, X1, e1, rfl, rfl, l0, l1⟩ := H.dv 3); have HD3 := am_ (And.intro l0 l1); clear l0 l1; refine ⟨_, rfl, ?_⟩)
      | ((with_reducible refine gate_dst (N := 7) rfl ?_); refine nw_ H 7 #[.slice none 0 0, .slice none 0 0] 28 rfl ?_; clear H; intro g4 w1 H; replace H := H.nz; have F4 := H.f2 4)
      | ((with_reducible refine gate_store (p := 7) rfl ?_); refine p2_ H 7 4 rfl ?_; clear H F4; intro w1 H; replace H := H.nz; have F4 := H.f2 4)
      | ((with_reducible refine gate_dst (N := 26) rfl ?_); refine gL_ (some 26) Try.func18 #[.agg #[.slice X0 acc.length e0, .slice X1 nxt.length e1], .int .i64 most] ?_; refine (HIM.out X0 e0 X1 e1 _ (H.dv0 3) HD3.out.1 (H.dv1 3) HD3.out.2).mono ?_; rintro e w4 ⟨v, rfl, ho, hb⟩; replace H := (H.newR hb ho).nz; clear hb ho F4; (obtain ⟨AG, cG, rfl, lG, -⟩ := (H.rd 5).2); have HLG := am_ lG; clear lG; refine ⟨_, rfl, ?_⟩)
      | ((with_reducible refine gate_dst (N := 29) rfl ?_); refine gL_ (some 29) Try.func19 #[.slice AG W.length cG, .slice AW W.length cW] ?_; refine (laws_eqStringS.calls ke AG cG W AW cW W true _ (H.rd_c 5) HLG.out (H.rd_c 2) HLW.out HKE.out).mono ?_; rintro e w2 ⟨rfl, hb⟩; replace H := H.only hb.below; clear hb; refine ⟨_, rfl, ?_⟩))
    have F0 := H.f2 0
    have F4 := H.f2 4
    refine start_ (n := 5) (S := (fun w' => w'.cell? ⟨g4, 0, none⟩ = some (.slice X0 acc.length e0) ∧ w'.cell? ⟨g4, 1, none⟩ = some (.slice X1 nxt.length e1) ∧ w'.cell? ⟨g1, 0, none⟩ = some (.slice A0 acc.length c0) ∧ w'.cell? ⟨g1, 1, none⟩ = some (.slice A1 nxt.length c1))) (ds := []) #[false, false, false, false, false] (by kernel_rfl) rfl rfl (⟨F4.1.1, F4.2.1, F0.1.1, F0.2.1⟩) (fun hHeld => ?_); refine with_tabW tabaw bitsaw (fun HT_ HW_ => ?_)
    clear F0 F4
    replace H := H.drew
    refine th_ 0 31 #[true, false, false, false, false] HT_ HW_ hHeld ?_
    refine th_ 1 32 #[true, true, false, false, false] HT_ HW_ hHeld ?_
    refine on_ 2 (some 33) #[true, true, true, false, false] HT_ (fun K hK => ?_)
    refine gO_ Try.func8 #[.agg #[.slice A0 acc.length c0, .slice A1 nxt.length c1]] ?_
    refine (laws_toDfa.calls kt A0 c0 acc A1 c1 nxt acc nxt _ (Kd.C_below HC0.out.1 H.bel) HC0.out.2 (Kd.C_below HC1.out.1 H.bel) HC1.out.2 HKT.out).mono ?_
    rintro e w3 ⟨v0, v1, rfl, ho0, ho1, hb⟩
    replace H := (H.newD hb ho0 ho1).nz
    obtain ⟨Y0, f0, Y1, f1, rfl, rfl, l0, l1⟩ := H.dv 6
    have HD6 := am_ (And.intro l0 l1)
    clear l0 l1 ho0 ho1
    refine ⟨_, rfl, ?_⟩
    refine hK.out _ _ ((sb_ hb hHeld)) (fun hHeld => ?_)
    clear hK K
    refine nm_ 33 ?_
    refine on_ 3 (some 34) #[true, true, true, true, false] HT_ (fun K hK => ?_)
    refine gO_ Try.func10 #[.agg #[.slice X0 acc.length e0, .slice X1 nxt.length e1], .agg #[.slice Y0 acc.length f0, .slice Y1 nxt.length f1]] ?_
    refine (laws_eqDfa.calls kd X0 e0 acc X1 e1 nxt Y0 f0 acc Y1 f1 nxt true _ (H.dv0 3) HD3.out.1 (H.dv1 3) HD3.out.2 (H.dv0 6) HD6.out.1 (H.dv1 6) HD6.out.2 HKD.out).mono ?_
    rintro e w4 ⟨rfl, hb2⟩
    replace H := H.only hb2
    refine ⟨_, rfl, ?_⟩
    refine hK.out _ _ ((sb_ hb2 hHeld)) (fun hHeld => ?_)
    clear hK K
    refine nm_ 34 ?_
    refine ph_ 4 35 #[true, true, true, true, true] HT_ ?_
    refine done_ (done_of HT_.out (by kernel_rfl)) ?_
    clear HT_ HW_ hHeld hb hb2
    have F4 := H.f2 4
    go_wp2_with (first
      | ((with_reducible refine gate_dst (N := 38) rfl ?_); refine gL_ (some 38) Try.func14 #[.agg #[.slice X0 acc.length e0, .slice X1 nxt.length e1], .int .i64 1] ?_; refine (H.markD 3 1 rfl ?s1 ?s2 HS.out.2.2 (by omega)).mono ?_; (case s1 => have := HS.out.1; omega); (case s2 => have := HS.out.2.1; omega); rintro e w5 ⟨rfl, H2⟩; clear H F4; have H := H2.nz; clear H2; refine ⟨_, rfl, ?_⟩)
      | ((with_reducible refine gate_dst (N := 44) rfl ?_); refine gate_guard (by rfl) ?_; dsimp only; refine gL_ (some 44) Try.func19 #[.slice AG W.length cG, .slice AW W.length cW] ?_; refine (laws_eqStringS.calls ke AG cG W AW cW W true _ (H.rd_c 5) HLG.out (H.rd_c 2) HLW.out HKE.out).mono ?_; rintro e w2 ⟨rfl, hb⟩; replace H := H.only hb.below; clear hb; refine ⟨_, rfl, ?_⟩)
      | ((with_reducible refine gate_dst (N := 49) rfl ?_); refine gL_ (some 49) Try.func20 #[.slice AG W.length cG, .int .i64 1] ?_; refine (Sl.markS H 5 rfl ?s1).mono ?_; (case s1 => have := HRL.out; omega); rintro e w5 ⟨rfl, H2⟩; clear H; have H := H2.nz; clear H2; refine ⟨_, rfl, ?_⟩)
      | ((with_reducible refine gate_dst (N := 52) rfl ?_); refine gL_ (some 52) Try.func21 #[.slice AG W.length cG, .int .i64 1] ?_; refine (heldS W.length (by have := HRL.out; omega) HLG.out (H.rd_c 5)).mono ?_; rintro e w2 ⟨rfl, hb⟩; replace H := H.only hb; clear hb; have F0 := H.f2 0; refine ⟨_, rfl, ?_⟩)
      | ((with_reducible refine gate_dst (N := 59) rfl ?_); refine gL_ (some 59) Try.func8 #[.agg #[.slice A0 acc.length c0, .slice A1 nxt.length c1]] ?_; refine (laws_toDfa.calls kt A0 c0 acc A1 c1 nxt acc nxt _ (Kd.C_below HC0.out.1 H.bel) HC0.out.2 (Kd.C_below HC1.out.1 H.bel) HC1.out.2 HKT.out).mono ?_; rintro e w3 ⟨v0, v1, rfl, ho0, ho1, hb⟩; replace H := (H.newD hb ho0 ho1).nz; clear hb ho0 ho1 F0; (obtain ⟨Z0, h0, Z1, h1, rfl, rfl, l0, l1⟩ := H.dv 7); have HD7 := am_ (And.intro l0 l1); clear l0 l1; refine ⟨_, rfl, ?_⟩)
      | ((with_reducible refine gate_dst (N := 61) rfl ?_); refine gL_ (some 61) Try.func18 #[.agg #[.slice Z0 acc.length h0, .slice Z1 nxt.length h1], .int .i64 most] ?_; refine (HIM.out Z0 h0 Z1 h1 _ (H.dv0 7) HD7.out.1 (H.dv1 7) HD7.out.2).mono ?_; rintro e w4 ⟨v, rfl, ho, hb⟩; replace H := (H.newR hb ho).nz; clear hb ho; (obtain ⟨AH, cH, rfl, lH, -⟩ := (H.rd 8).2); have HLH := am_ lH; clear lH; refine ⟨_, rfl, ?_⟩)
      | ((with_reducible refine gate_dst (N := 64) rfl ?_); refine gL_ (some 64) Try.func19 #[.slice AH W.length cH, .slice AW W.length cW] ?_; refine (laws_eqStringS.calls ke AH cH W AW cW W true _ (H.rd_c 8) HLH.out (H.rd_c 2) HLW.out HKE.out).mono ?_; rintro e w2 ⟨rfl, hb⟩; replace H := H.only hb.below; clear hb; refine ⟨_, rfl, ?_⟩)
      | ((with_reducible refine gate_dst (N := 68) rfl ?_); refine gL_ (some 68) Try.func21 #[.slice AG W.length cG, .int .i64 1] ?_; refine (heldS W.length (by have := HRL.out; omega) HLG.out (H.rd_c 5)).mono ?_; rintro e w2 ⟨rfl, hb⟩; replace H := H.only hb; clear hb; refine ⟨_, rfl, ?_⟩))
    go_ret
    exact ⟨rfl, H.bel⟩
end Go.Proofs.Ytpgdhpnmagmooaa.Aw
end
section
namespace Go.Proofs.Ytpgdhpnmagmooaa.P
open Go.RowKit Go.Proofs.YtpgdhpnmagmooaaW.PrintWords Go.Proofs.YtpgdhpnmagmooaaW.PrintLast Go.Proofs.YtpgdhpnmagmooaaW.PrintMore
attribute [local go_sem] max2_int min2_int max_two min_two max_three min_three max_four min_four
set_option linter.unusedVariables false
set_option linter.unusedSimpArgs false
def laws_FnExactAcceptedWords.f (l0_0 : List Bool) (l0_1 : List (List Int)) (a1 : Int) : Option Bool := if l0_0.length ≤ 9223372036854775807 ∧ l0_1.length ≤ 9223372036854775807 ∧ ∀ x ∈ l0_1, x.length ≤ 9223372036854775807 then some true else none
theorem laws_FnExactAcceptedWords.calls (A0_0 : Option Addr) (c0_0 : Nat) (l0_0 : List Bool) (A0_1 : Option Addr) (c0_1 : Nat) (l0_1 : List (List Int)) (a1 : Int) (r : Bool) (w : World) (hr0_0 : Kd.C Kd.bool w A0_0 l0_0.length l0_0) (hc0_0 : l0_0.length ≤ c0_0) (hr0_1 : Kd.C (Kd.slice 3 (Kd.int .i64)) w A0_1 l0_1.length l0_1) (hc0_1 : l0_1.length ≤ c0_1) (h : laws_FnExactAcceptedWords.f l0_0 l0_1 a1 = some r) (hR : r = true) :
    Calls Try.prog 5 #[.agg #[.slice A0_0 l0_0.length c0_0, .slice A0_1 l0_1.length c0_1], .int .i64 a1] w fun e w' => e = .returned (.bool r) ∧ Below w.heap.size w w' := by
  unfold laws_FnExactAcceptedWords.f at h
  subst hR
  split at h
  · rename_i hp
    exact Aw.lawAw a1 A0_0 c0_0 l0_0 A0_1 c0_1 l0_1 w hr0_0 hc0_0 hr0_1 hc0_1 hp.1 hp.2.1 hp.2.2
  · cases h
end Go.Proofs.Ytpgdhpnmagmooaa.P
end
section
namespace Go.Proofs.Ytpgdhpnmagmooaa.St
open Go.Proofs.Ytpgdhpnmagmooaa Rk
def FnExactAcceptedWords : Prop := ∀ (l0_0 : List Bool) (l0_1 : List (List Int)) (a1 : Int), (rowsOf (fun _ => True)) l0_0 → (rowsOf (rowsOf (wfI .i64))) l0_1 → wfI .i64 a1 → P.laws_FnExactAcceptedWords.f l0_0 l0_1 a1 = some true
end Go.Proofs.Ytpgdhpnmagmooaa.St
end
section
namespace Go.Proofs.Ytpgdhpnmagmooaa.Pl
open Go.RowKit Go.Proofs.Ytpgdhpnmagmooaa Go.Proofs.Ytpgdhpnmagmooaa.P Go.Proofs.YtpgdhpnmagmooaaW.PrintWords Go.Proofs.YtpgdhpnmagmooaaW.PrintLast Go.Proofs.YtpgdhpnmagmooaaW.PrintMore Rk
set_option linter.unusedVariables false
theorem pureFnExactAcceptedWords : St.FnExactAcceptedWords := by
  intro a n m wa wn wm
  unfold laws_FnExactAcceptedWords.f
  rw [if_pos ⟨wa.1, wn.1, lens wn⟩]
end Go.Proofs.Ytpgdhpnmagmooaa.Pl
end
section
namespace Go.Proofs.Ytpgdhpnmagmooaa.Pure
theorem FnExactAcceptedWords : St.FnExactAcceptedWords := Pl.pureFnExactAcceptedWords
end Go.Proofs.Ytpgdhpnmagmooaa.Pure
end
section
namespace Go.Proofs.Ytpgdhpnmagmooaa.fnExactAcceptedWords
open Go.ChangeShapes Go.WideShapes Go.ChangeAt Go.RowKit Go.Proofs.Ytpgdhpnmagmooaa.Rk Go.Proofs.YtpgdhpnmagmooaaW.PrintWords
open Go.ChangeMaps (open_string shut_string)
set_option linter.unusedVariables false
theorem own : ownKnob Try.prog.godebug = none := by kernel_rfl
theorem laidOut : laidOutB Try.prog = true := by kernel_rfl
set_option maxRecDepth 100000 in
theorem lifted (os : Os) (started : os.Started) (H : Type) (enc : TypeId × Value → H) :
    ReturnsInHanded {} Try.checked os 5 .any (Rows.fnExactAcceptedWordsSpec.pre6 enc Try.prog Try.f5 Rows.fnExactAcceptedWordsRow.domain false) (Rows.fnExactAcceptedWordsSpec.post enc Try.prog Try.f5 false true false false) := by
  refine returnsInHanded_of_change_sized (C := Try.checked) own started (by kernel_rfl) Try.func5
    (ChangeSpec.witness6 (enc := enc) (C := Try.checked) false ⟨#[], #[.agg #[.slice none 0 0, .slice none 0 0], .int .i64 0], []⟩ 8 (by kernel_rfl) (by kernel_rfl) (by kernel_rfl) (by kernel_rfl)) ?_
  intro W base args ds gs before hval0 hW hcnd hsz0 _
  have hsz : (DataW.weightsEach Try.prog (Try.f5.params.toList ++ Rows.fnExactAcceptedWordsSpec.plain.varTypes Try.prog) (ds ++ gs)).all (· ≤ reachBytes) = true := hsz0
  have hval : ∀ (j : Nat) t v, Try.f5.params[j]? = some t → args[j]? = some v → Value.okWide Try.prog W .any base t v := hval0
  have hW' := hW
  obtain ⟨p, q, hA0, hV, rfl, hfz, hnd⟩ := hW
  have hA : DataW.TrodAll enc Try.prog W 0 (fun _ => true) true Try.f5.params.toList args.toList ds p := hA0
  rw [Try.params5] at hA hval hsz
  obtain ⟨v0, vs0, d0, ds0, p0, q0, hargs, rfl, rfl, h0, r0⟩ := trodAll_cons hA
  obtain ⟨v1, vs1, d1, ds1, p1, q1, rfl, rfl, rfl, h1, r1⟩ := trodAll_cons r0
  obtain ⟨rfl, rfl, rfl⟩ := trodAll_nil r1
  obtain rfl : args = #[v0, v1] := by cases args; simp_all
  obtain ⟨rfl, rfl⟩ := trodVars_none hV
  have k0 := h0
  have lt0 : ∀ x ∈ p0, x.block < W.heap.size := by obtain ⟨m, hm⟩ := k0; exact DataW.trod_lt m _ _ _ hm
  obtain ⟨u0_0, u0_1, y0_0, y0_1, n0, rfl, rfl, _, g0_0, g0_1⟩ := Go.Joins.open_agg2 Try.underlying25 (by kernel_rfl) (by kernel_rfl) (hval 0 25 v0 rfl rfl) h0
  obtain ⟨l0_0, aa, w0_0⟩ := (opens_slice (K := Kd.bool) 4 Try.underlying22 (by kernel_rfl) rfl (opens_bool Try.underlying4)) _ _ _ g0_0
  obtain ⟨A0_0, c0_0, rfl, hc0_0, hr0_0⟩ := slice_of aa
  obtain ⟨l0_1, ab, w0_1⟩ := (opens_slice (K := (Kd.slice 3 (Kd.int .i64))) 43 Try.underlying23 (by kernel_rfl) rfl (opens_slice (K := (Kd.int .i64)) 3 Try.underlying43 (by kernel_rfl) rfl (opens_int Try.underlying3))) _ _ _ g0_1
  obtain ⟨A0_1, c0_1, rfl, hc0_1, hr0_1⟩ := slice_of ab
  obtain ⟨a1, rfl, rfl, rfl, w1⟩ := open_int Try.underlying3 (hval 1 3 v1 rfl rfl) h1
  clear hA0 hval0 hsz0 hsz
  have hk := Pure.FnExactAcceptedWords l0_0 l0_1 a1 w0_0 w0_1 w1
  refine (P.laws_FnExactAcceptedWords.calls A0_0 c0_0 l0_0 A0_1 c0_1 l0_1 a1 true W hr0_0 hc0_0 hr0_1 hc0_1 hk rfl).mono fun e W' hh => ?_
  obtain ⟨he, bel0⟩ := hh
  have bel : Below W.heap.size W W' := bel0
  subst he
  exact ⟨_, rfl, _, _, _, [], _, [], hW', trodAll_mk1 (shut_bool Try.underlying4 _), (trodAll_cons_mk (Below.trod laidOut (by kernel_rfl) (of_decide_eq_true (by kernel_rfl)) k0 bel lt0) (trodAll_cons_mk (shut_int Try.underlying3 w1) trodAll_mk0)), rfl, bel.frame _, fun h => by cases h⟩
theorem over : Rows.fnExactAcceptedWordsRow.holds Try.pinned (OpenSpec.ofChange Rows.fnExactAcceptedWordsSpec) :=
  OpenClaim.holds_of_wide 5 Try.f5 rfl rfl rfl rfl rfl rfl rfl ⟨rfl, rfl, rfl, rfl, rfl⟩ rfl rfl rfl rfl rfl (by kernel_rfl) Try.func5 (by kernel_rfl)
    (of_decide_eq_true (by kernel_rfl)) (by unfold Func.isWrapper; first | (rw [if_pos (by decide +kernel)]; kernel_rfl) | (rw [if_neg (by decide +kernel)]; exact ⟨rfl, rfl⟩))
    (fun os started H enc _ => lifted os started H enc)
theorem proved : Rows.FnExactAcceptedWordsSaid := over
#print axioms proved
end Go.Proofs.Ytpgdhpnmagmooaa.fnExactAcceptedWords
namespace Go.Proofs.Ytpgdhpnmagmooaa
theorem fnExactAcceptedWords_holds : Rows.FnExactAcceptedWordsSaid := fnExactAcceptedWords.proved
end Go.Proofs.Ytpgdhpnmagmooaa
end
