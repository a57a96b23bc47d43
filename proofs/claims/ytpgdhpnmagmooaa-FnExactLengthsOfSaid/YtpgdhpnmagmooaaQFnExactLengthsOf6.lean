/- The law FnExactLengthsOf holds for every input. No condition. -/
import Derived.Test.YtpgdhpnmagmooaaQFnExactLengthsOf2
import Derived.Test.YtpgdhpnmagmooaaQFnExactLengthsOf5
import Derived.Test.YtpgdhpnmagmooaaQFnExactLengthsOf3
import Derived.Test.YtpgdhpnmagmooaaQFnExactLengthsOf4
import Derived.Test.YtpgdhpnmagmooaaRows
import Derived.WalkKit
import Derived.ProofKit
import Derived.OpenShut
import Derived.ShutString
import Derived.ChangeOld
import Derived.Below
import Derived.SizedLaws
import Derived.Lib.SmallJoins
import Derived.ChangeSlices
section
namespace Go.Proofs.Ytpgdhpnmagmooaa.Can
open Go.RowKit Go.Shelf Go.Proofs.Ytpgdhpnmagmooaa Go.Proofs.Ytpgdhpnmagmooaa.P Go.Proofs.Ytpgdhpnmagmooaa.Wk Go.Proofs.Ytpgdhpnmagmooaa.Lg Go.Proofs.Ytpgdhpnmagmooaa.Pl Go.Proofs.Ytpgdhpnmagmooaa.Mp Go.Proofs.Ytpgdhpnmagmooaa.Bf Go.Proofs.Ytpgdhpnmagmooaa.Mn Go.Proofs.YtpgdhpnmagmooaaW.PrintWords Go.Proofs.YtpgdhpnmagmooaaW.PrintLast Go.Proofs.YtpgdhpnmagmooaaW.PrintMore
set_option linter.unusedVariables false
set_option linter.unusedSimpArgs false
def Tln : Bool × List (List Nat × List Nat) := (true, [([], []), ([], []), ([1], [1]), ([0, 2, 2], [0, 2]), ([3], [3])])
def Bln : List Nat := [0, 0, 2, 7, 15]
theorem tabln : rtab .any (opsOf Try.f4 10) = Tln := by kernel_rfl
theorem bitsln : waitsOk Tln.2 Bln = true := by kernel_rfl
theorem same_l0 (a : List Bool) (hn : a.length ≤ 4000000000000) : ∀ d i : Nat, i + d = a.length → Ev (fun k => laws_eqBoolS.l0 k a a i) true
  | 0, i, h => by
    refine next ?_
    simp only [laws_eqBoolS.l0, if_neg (show ¬ (i : Int) < (a.length : Int) by omega)]
    exact ev_some rfl
  | d + 1, i, h => by
    refine next ?_
    have ha : i < a.length := by omega
    simp only [laws_eqBoolS.l0, if_pos (show (i : Int) < (a.length : Int) by omega), if_pos (show (0 : Int) ≤ i by omega), bne_self_eq_false, Bool.false_eq_true, if_false, up1 (show i < 9223372036854775807 by omega)]
    first | exact same_l0 a hn d (i + 1) (by omega) | (simp only [if_true]; exact same_l0 a hn d (i + 1) (by omega)) | (simp; exact same_l0 a hn d (i + 1) (by omega))
theorem sameB (a : List Bool) (hn : a.length ≤ 4000000000000) : ∃ k, laws_eqBoolS.f k a a = some true := by
  refine Ev.rounds ?_
  simp only [laws_eqBoolS.f, bne_self_eq_false, Bool.false_eq_true, if_false, if_true]
  exact same_l0 a hn a.length 0 (by omega)
theorem mkB_length (a : Int) (xs : List Bool) : (mkB a xs).length = xs.length := by
  unfold mkB
  simp
theorem heldCall {A : Option Addr} {c k : Nat} {w : World} (W : List Bool) (hk : laws_heldBoolS.f k (mkB 1 W) 1 = some (1 + (W.length : Int))) (hc : W.length ≤ c) (hC : Kd.C Kd.bool w A (mkB 1 W).length (mkB 1 W)) :
    Calls Try.prog 16 #[.slice A W.length c, .int .i64 1] w fun e w' => e = .returned (.int .i64 (1 + (W.length : Int))) ∧ Below w.heap.size w w' := by
  have h := laws_heldBoolS.calls k A c (mkB 1 W) 1 _ w hC (by rw [mkB_length]; exact hc) hk
  rw [mkB_length] at h
  exact h.mono fun e w' hh => ⟨hh.1, hh.2.below⟩
set_option maxHeartbeats 40000000 in
set_option maxRecDepth 100000 in
theorem lawLn (A0 : Option Addr) (c0 : Nat) (acc : List Bool) (A1 : Option Addr) (c1 : Nat) (nxt : List (List Int)) (w : World) (hr0 : Kd.C Kd.bool w A0 acc.length acc) (hc0 : acc.length ≤ c0) (hr1 : Kd.C (Kd.slice 3 (Kd.int .i64)) w A1 nxt.length nxt) (hc1 : nxt.length ≤ c1)
    (ha : acc.length ≤ 9223372036854775807) (hn : nxt.length ≤ 9223372036854775807) (hx : ∀ r ∈ nxt, r.length ≤ 9223372036854775807) :
    Calls Try.prog 4 #[.agg #[.slice A0 acc.length c0, .slice A1 nxt.length c1]] w fun e w' => e = .returned (.bool true) ∧ Below w.heap.size w w' := by
  obtain ⟨sz, hsz, -, -, hsz2⟩ := szDfa acc nxt ha hn hx 1048576 (by omega) (by omega)
  obtain ⟨ks, hks⟩ := hsz.rounds
  have HKS := am_ hks
  have H := Sl.start w
  have HC0 := am_ (And.intro hr0 hc0)
  have HC1 := am_ (And.intro hr1 hc1)
  have hu := Try.underlying25
  have hu2 := Try.underlying28
  clear hr0 hc0 hr1 hc1 hks hsz ha hn hx
  by_cases hneg : sz < 0
  · clear hsz2
    have q1 : (sz < 0) = True := eq_true hneg
    clear hneg
    go_enter Try.func4, Try.ntmps4
    go_wp2_with (first
      | ((with_reducible refine gate_dst (N := 1) rfl ?_); refine nw_ H 1 #[.slice A0 acc.length c0, .slice A1 nxt.length c1] 25 rfl ?_; clear H; intro g1 w1 H; replace H := H.nz; have F0 := H.f2 0)
      | ((with_reducible refine gate_dst (N := 16) rfl ?_); refine gL_ (some 16) Try.func6 #[.agg #[.slice A0 acc.length c0, .slice A1 nxt.length c1], .int .i64 1048576] ?_; refine (laws_szDfa.calls ks A0 c0 acc A1 c1 nxt 1048576 sz _ (Kd.C_below HC0.out.1 H.bel) HC0.out.2 (Kd.C_below HC1.out.1 H.bel) HC1.out.2 HKS.out).mono ?_; rintro e w2 ⟨rfl, hb⟩; replace H := H.only hb; clear hb F0; refine ⟨_, rfl, ?_⟩))
    go_ret
    exact ⟨rfl, H.bel⟩
  · obtain ⟨s1, s2, s3⟩ := hsz2 (by omega)
    have q1 : (sz < 0) = False := eq_false hneg
    obtain ⟨r, hrl, hsp, him⟩ := lengthsBoth acc nxt s1 s2
    obtain ⟨kt, hkt⟩ := (toDfa acc nxt s1 s2 s3).rounds
    obtain ⟨kd, hkd⟩ := (sameDfa acc nxt acc nxt s1 s2 s3).rounds
    have eb : (decide (acc = acc) && decide (nxt = nxt)) = true := by simp
    rw [eb] at hkd
    obtain ⟨ke, hke⟩ := sameB r.1 (by omega)
    have hsm : small nxt := fun x hx => by have := s3 x hx; omega
    obtain ⟨kh, hkh⟩ := (heldBools r.1 (by omega) 1 (by omega)).rounds
    have hmk := mkK_bound nxt (1 + (acc.length : Int)) hsm
    have HS := am_ (And.intro s1 (And.intro s2 hsm))
    have HSP := am_ hsp
    have HIM := am_ him
    have HKT := am_ hkt
    have HKD := am_ hkd
    have HKE := am_ hke
    have HKH := am_ hkh
    have HRL := am_ hrl
    have q2 : (mkK nxt (1 + (acc.length : Int)) < 0) = False := eq_false (by omega)
    have q3 : ((1 : Int) + (r.1.length : Int) < 0) = False := eq_false (by omega)
    obtain ⟨W, hW⟩ : ∃ W, W = r.1 := ⟨_, rfl⟩
    obtain ⟨n, hN⟩ : ∃ n, n = r.2 := ⟨_, rfl⟩
    rw [← hW] at HKE HKH HRL q3
    have HW := am_ (And.intro hW hN)
    clear hneg hsz2 s1 s2 s3 hsp him hkt hkd hke hkh hsm eb hrl hmk hW hN
    rw [← HW.out.1, ← HW.out.2] at HSP HIM
    clear HW
    go_enter Try.func4, Try.ntmps4
    go_wp2_with (first
      | ((with_reducible refine gate_dst (N := 1) rfl ?_); refine nw_ H 1 #[.slice A0 acc.length c0, .slice A1 nxt.length c1] 25 rfl ?_; clear H; intro g1 w1 H; replace H := H.nz; have F0 := H.f2 0)
      | ((with_reducible refine gate_dst (N := 16) rfl ?_); refine gL_ (some 16) Try.func6 #[.agg #[.slice A0 acc.length c0, .slice A1 nxt.length c1], .int .i64 1048576] ?_; refine (laws_szDfa.calls ks A0 c0 acc A1 c1 nxt 1048576 sz _ (Kd.C_below HC0.out.1 H.bel) HC0.out.2 (Kd.C_below HC1.out.1 H.bel) HC1.out.2 HKS.out).mono ?_; rintro e w2 ⟨rfl, hb⟩; replace H := H.only hb; clear hb F0; have F0 := H.f2 0; refine ⟨_, rfl, ?_⟩)
      | ((with_reducible refine gate_dst (N := 21) rfl ?_); refine gL_ (some 21) Try.func8 #[.agg #[.slice A0 acc.length c0, .slice A1 nxt.length c1]] ?_; refine (laws_toDfa.calls kt A0 c0 acc A1 c1 nxt acc nxt _ (Kd.C_below HC0.out.1 H.bel) HC0.out.2 (Kd.C_below HC1.out.1 H.bel) HC1.out.2 HKT.out).mono ?_; rintro e w3 ⟨v0, v1, rfl, ho0, ho1, hb⟩; replace H := (H.newD hb ho0 ho1).nz; clear hb ho0 ho1 F0; (obtain ⟨B0, d0, B1, d1, rfl, rfl, l0, l1⟩ := H.dv 1); have HD1 := am_ (And.intro l0 l1); clear l0 l1; refine ⟨_, rfl, ?_⟩)
      | ((with_reducible refine gate_dst (N := 22) rfl ?_); refine gL_ (some 22) Try.func11 #[.agg #[.slice B0 acc.length d0, .slice B1 nxt.length d1]] ?_; refine (HSP.out B0 d0 B1 d1 _ (H.dv0 1) HD1.out.1 (H.dv1 1) HD1.out.2).mono ?_; rintro e w4 ⟨v, rfl, ho, hb⟩; replace H := (H.newR hb ho).nz; clear hb ho; (obtain ⟨AW, cW, rfl, lW, -⟩ := (H.rd 2).2); have HLW := am_ lW; clear lW; have F0 := H.f2 0; refine ⟨_, rfl, ?_⟩)
      | ((with_reducible refine gate_dst (N := 26) rfl ?_); refine gL_ (some 26) Try.func8 #[.agg #[.slice A0 acc.length c0, .slice A1 nxt.length c1]] ?_; refine (laws_toDfa.calls kt A0 c0 acc A1 c1 nxt acc nxt _ (Kd.C_below HC0.out.1 H.bel) HC0.out.2 (Kd.C_below HC1.out.1 H.bel) HC1.out.2 HKT.out).mono ?_; rintro e w3 ⟨v0, v1, rfl, ho0, ho1, hb⟩; replace H := (H.newD hb ho0 ho1).nz; clear hb ho0 ho1 F0; (obtain ⟨X0, e0, X1, e1, rfl, rfl, l0, l1⟩ := H.dv 3); have HD3 := am_ (And.intro l0 l1); clear l0 l1; refine ⟨_, rfl, ?_⟩)
      | ((with_reducible refine gate_dst (N := 6) rfl ?_); refine nw_ H 6 #[.slice none 0 0, .slice none 0 0] 28 rfl ?_; clear H; intro g4 w1 H; replace H := H.nz; have F4 := H.f2 4)
      | ((with_reducible refine gate_store (p := 6) rfl ?_); refine p2_ H 6 4 rfl ?_; clear H F4; intro w1 H; replace H := H.nz; have F4 := H.f2 4)
      | ((with_reducible refine gate_dst (N := 29) rfl ?_); refine gL_ (some 29) Try.func12 #[.agg #[.slice X0 acc.length e0, .slice X1 nxt.length e1]] ?_; refine (HIM.out X0 e0 X1 e1 _ (H.dv0 3) HD3.out.1 (H.dv1 3) HD3.out.2).mono ?_; rintro e w4 ⟨v, rfl, ho, hb⟩; replace H := (H.newR hb ho).nz; clear hb ho F4; (obtain ⟨AG, cG, rfl, lG, -⟩ := (H.rd 5).2); have HLG := am_ lG; clear lG; refine ⟨_, rfl, ?_⟩)
      | ((with_reducible refine gate_dst (N := 34) rfl ?_); refine gL_ (some 34) Try.func13 #[.slice AG W.length cG, .slice AW W.length cW] ?_; refine (laws_eqBoolS.calls ke AG cG W AW cW W true _ (H.rd_c 5) HLG.out (H.rd_c 2) HLW.out HKE.out).mono ?_; rintro e w2 ⟨rfl, hb⟩; replace H := H.only hb.below; clear hb; refine ⟨_, rfl, ?_⟩))
    have F0 := H.f2 0
    have F4 := H.f2 4
    refine start_ (n := 5) (S := (fun w' => w'.cell? ⟨g4, 0, none⟩ = some (.slice X0 acc.length e0) ∧ w'.cell? ⟨g4, 1, none⟩ = some (.slice X1 nxt.length e1) ∧ w'.cell? ⟨g1, 0, none⟩ = some (.slice A0 acc.length c0) ∧ w'.cell? ⟨g1, 1, none⟩ = some (.slice A1 nxt.length c1))) (ds := []) #[false, false, false, false, false] (by kernel_rfl) rfl rfl (⟨F4.1.1, F4.2.1, F0.1.1, F0.2.1⟩) (fun hHeld => ?_); refine with_tabW tabln bitsln (fun HT_ HW_ => ?_)
    clear F0 F4
    replace H := H.drew
    refine th_ 0 41 #[true, false, false, false, false] HT_ HW_ hHeld ?_
    refine th_ 1 42 #[true, true, false, false, false] HT_ HW_ hHeld ?_
    refine on_ 2 (some 43) #[true, true, true, false, false] HT_ (fun K hK => ?_)
    refine gO_ Try.func8 #[.agg #[.slice A0 acc.length c0, .slice A1 nxt.length c1]] ?_
    refine (laws_toDfa.calls kt A0 c0 acc A1 c1 nxt acc nxt _ (Kd.C_below HC0.out.1 H.bel) HC0.out.2 (Kd.C_below HC1.out.1 H.bel) HC1.out.2 HKT.out).mono ?_
    rintro e w3 ⟨v0, v1, rfl, ho0, ho1, hb⟩
    replace H := (H.newD hb ho0 ho1).nz
    obtain ⟨Y0, f0, Y1, f1, rfl, rfl, l0, l1⟩ := H.dv 6
    have HD6 := am_ (And.intro l0 l1)
    clear l0 l1 ho0 ho1
    refine ⟨_, rfl, ?_⟩
    refine hK.out _ _ ((sb_ hb hHeld)) (fun hHeld => ?_)
    clear hK K
    refine nm_ 43 ?_
    refine on_ 3 (some 44) #[true, true, true, true, false] HT_ (fun K hK => ?_)
    refine gO_ Try.func10 #[.agg #[.slice X0 acc.length e0, .slice X1 nxt.length e1], .agg #[.slice Y0 acc.length f0, .slice Y1 nxt.length f1]] ?_
    refine (laws_eqDfa.calls kd X0 e0 acc X1 e1 nxt Y0 f0 acc Y1 f1 nxt true _ (H.dv0 3) HD3.out.1 (H.dv1 3) HD3.out.2 (H.dv0 6) HD6.out.1 (H.dv1 6) HD6.out.2 HKD.out).mono ?_
    rintro e w4 ⟨rfl, hb2⟩
    replace H := H.only hb2
    refine ⟨_, rfl, ?_⟩
    refine hK.out _ _ ((sb_ hb2 hHeld)) (fun hHeld => ?_)
    clear hK K
    refine nm_ 44 ?_
    refine ph_ 4 45 #[true, true, true, true, true] HT_ ?_
    refine done_ (done_of HT_.out (by kernel_rfl)) ?_
    clear HT_ HW_ hHeld hb hb2
    have F4 := H.f2 4
    go_wp2_with (first
      | ((with_reducible refine gate_dst (N := 48) rfl ?_); refine gL_ (some 48) Try.func14 #[.agg #[.slice X0 acc.length e0, .slice X1 nxt.length e1], .int .i64 1] ?_; refine (H.markD 3 1 rfl ?s1 ?s2 HS.out.2.2 (by omega)).mono ?_; (case s1 => have := HS.out.1; omega); (case s2 => have := HS.out.2.1; omega); rintro e w5 ⟨rfl, H2⟩; clear H F4; have H := H2.nz; clear H2; refine ⟨_, rfl, ?_⟩)
      | ((with_reducible refine gate_dst (N := 54) rfl ?_); refine gate_guard (by rfl) ?_; dsimp only; refine gL_ (some 54) Try.func13 #[.slice AG W.length cG, .slice AW W.length cW] ?_; refine (laws_eqBoolS.calls ke AG cG W AW cW W true _ (H.rd_c 5) HLG.out (H.rd_c 2) HLW.out HKE.out).mono ?_; rintro e w2 ⟨rfl, hb⟩; replace H := H.only hb.below; clear hb; refine ⟨_, rfl, ?_⟩)
      | ((with_reducible refine gate_dst (N := 64) rfl ?_); refine gL_ (some 64) Try.func15 #[.slice AG W.length cG, .int .i64 1] ?_; refine (H.markB 5 1 rfl ?s1 (by omega)).mono ?_; (case s1 => have := HRL.out; omega); rintro e w5 ⟨rfl, H2⟩; clear H; have H := H2.nz; clear H2; refine ⟨_, rfl, ?_⟩)
      | ((with_reducible refine gate_dst (N := 67) rfl ?_); refine gL_ (some 67) Try.func16 #[.slice AG W.length cG, .int .i64 1] ?_; refine (heldCall W HKH.out HLG.out (H.rd_c 5)).mono ?_; rintro e w2 ⟨rfl, hb⟩; replace H := H.only hb; clear hb; have F0 := H.f2 0; refine ⟨_, rfl, ?_⟩)
      | ((with_reducible refine gate_dst (N := 75) rfl ?_); refine gL_ (some 75) Try.func8 #[.agg #[.slice A0 acc.length c0, .slice A1 nxt.length c1]] ?_; refine (laws_toDfa.calls kt A0 c0 acc A1 c1 nxt acc nxt _ (Kd.C_below HC0.out.1 H.bel) HC0.out.2 (Kd.C_below HC1.out.1 H.bel) HC1.out.2 HKT.out).mono ?_; rintro e w3 ⟨v0, v1, rfl, ho0, ho1, hb⟩; replace H := (H.newD hb ho0 ho1).nz; clear hb ho0 ho1 F0; (obtain ⟨Z0, h0, Z1, h1, rfl, rfl, l0, l1⟩ := H.dv 7); have HD7 := am_ (And.intro l0 l1); clear l0 l1; refine ⟨_, rfl, ?_⟩)
      | ((with_reducible refine gate_dst (N := 76) rfl ?_); refine gL_ (some 76) Try.func12 #[.agg #[.slice Z0 acc.length h0, .slice Z1 nxt.length h1]] ?_; refine (HIM.out Z0 h0 Z1 h1 _ (H.dv0 7) HD7.out.1 (H.dv1 7) HD7.out.2).mono ?_; rintro e w4 ⟨v, rfl, ho, hb⟩; replace H := (H.newR hb ho).nz; clear hb ho; (obtain ⟨AH, cH, rfl, lH, -⟩ := (H.rd 8).2); have HLH := am_ lH; clear lH; refine ⟨_, rfl, ?_⟩)
      | ((with_reducible refine gate_dst (N := 81) rfl ?_); refine gL_ (some 81) Try.func13 #[.slice AH W.length cH, .slice AW W.length cW] ?_; refine (laws_eqBoolS.calls ke AH cH W AW cW W true _ (H.rd_c 8) HLH.out (H.rd_c 2) HLW.out HKE.out).mono ?_; rintro e w2 ⟨rfl, hb⟩; replace H := H.only hb.below; clear hb; refine ⟨_, rfl, ?_⟩)
      | ((with_reducible refine gate_dst (N := 90) rfl ?_); refine gL_ (some 90) Try.func16 #[.slice AG W.length cG, .int .i64 1] ?_; refine (heldCall W HKH.out HLG.out (H.rd_c 5)).mono ?_; rintro e w2 ⟨rfl, hb⟩; replace H := H.only hb; clear hb; refine ⟨_, rfl, ?_⟩))
    go_ret
    exact ⟨rfl, H.bel⟩
end Go.Proofs.Ytpgdhpnmagmooaa.Can
end
section
namespace Go.Proofs.Ytpgdhpnmagmooaa.P
open Go.RowKit Go.Proofs.YtpgdhpnmagmooaaW.PrintWords Go.Proofs.YtpgdhpnmagmooaaW.PrintLast Go.Proofs.YtpgdhpnmagmooaaW.PrintMore
attribute [local go_sem] max2_int min2_int max_two min_two max_three min_three max_four min_four
set_option linter.unusedVariables false
set_option linter.unusedSimpArgs false
def laws_FnExactLengthsOf.f (l0_0 : List Bool) (l0_1 : List (List Int)) : Option Bool := if l0_0.length ≤ 9223372036854775807 ∧ l0_1.length ≤ 9223372036854775807 ∧ ∀ x ∈ l0_1, x.length ≤ 9223372036854775807 then some true else none
theorem laws_FnExactLengthsOf.calls (A0_0 : Option Addr) (c0_0 : Nat) (l0_0 : List Bool) (A0_1 : Option Addr) (c0_1 : Nat) (l0_1 : List (List Int)) (r : Bool) (w : World) (hr0_0 : Kd.C Kd.bool w A0_0 l0_0.length l0_0) (hc0_0 : l0_0.length ≤ c0_0) (hr0_1 : Kd.C (Kd.slice 3 (Kd.int .i64)) w A0_1 l0_1.length l0_1) (hc0_1 : l0_1.length ≤ c0_1) (h : laws_FnExactLengthsOf.f l0_0 l0_1 = some r) (hR : r = true) :
    Calls Try.prog 4 #[.agg #[.slice A0_0 l0_0.length c0_0, .slice A0_1 l0_1.length c0_1]] w fun e w' => e = .returned (.bool r) ∧ Below w.heap.size w w' := by
  unfold laws_FnExactLengthsOf.f at h
  subst hR
  split at h
  · rename_i hp
    exact Can.lawLn A0_0 c0_0 l0_0 A0_1 c0_1 l0_1 w hr0_0 hc0_0 hr0_1 hc0_1 hp.1 hp.2.1 hp.2.2
  · cases h
end Go.Proofs.Ytpgdhpnmagmooaa.P
end
section
namespace Go.Proofs.Ytpgdhpnmagmooaa.St
open Go.Proofs.Ytpgdhpnmagmooaa Rk
def FnExactLengthsOf : Prop := ∀ (l0_0 : List Bool) (l0_1 : List (List Int)), (rowsOf (fun _ => True)) l0_0 → (rowsOf (rowsOf (wfI .i64))) l0_1 → P.laws_FnExactLengthsOf.f l0_0 l0_1 = some true
end Go.Proofs.Ytpgdhpnmagmooaa.St
end
section
namespace Go.Proofs.Ytpgdhpnmagmooaa.Pl
open Go.RowKit Go.Proofs.Ytpgdhpnmagmooaa Go.Proofs.Ytpgdhpnmagmooaa.P Go.Proofs.YtpgdhpnmagmooaaW.PrintWords Go.Proofs.YtpgdhpnmagmooaaW.PrintLast Go.Proofs.YtpgdhpnmagmooaaW.PrintMore Rk
set_option linter.unusedVariables false
theorem pureFnExactLengthsOf : St.FnExactLengthsOf := by
  intro a n wa wn
  unfold laws_FnExactLengthsOf.f
  rw [if_pos ⟨wa.1, wn.1, lens wn⟩]
end Go.Proofs.Ytpgdhpnmagmooaa.Pl
end
section
namespace Go.Proofs.Ytpgdhpnmagmooaa.Pure
theorem FnExactLengthsOf : St.FnExactLengthsOf := Pl.pureFnExactLengthsOf
end Go.Proofs.Ytpgdhpnmagmooaa.Pure
end
section
namespace Go.Proofs.Ytpgdhpnmagmooaa.fnExactLengthsOf
open Go.ChangeShapes Go.WideShapes Go.ChangeAt Go.RowKit Go.Proofs.Ytpgdhpnmagmooaa.Rk Go.Proofs.YtpgdhpnmagmooaaW.PrintWords
open Go.ChangeMaps (open_string shut_string)
set_option linter.unusedVariables false
theorem own : ownKnob Try.prog.godebug = none := by kernel_rfl
theorem laidOut : laidOutB Try.prog = true := by kernel_rfl
set_option maxRecDepth 100000 in
theorem lifted (os : Os) (started : os.Started) (H : Type) (enc : TypeId × Value → H) :
    ReturnsInHanded {} Try.checked os 4 .any (Rows.fnExactLengthsOfSpec.pre6 enc Try.prog Try.f4 Rows.fnExactLengthsOfRow.domain false) (Rows.fnExactLengthsOfSpec.post enc Try.prog Try.f4 false true false false) := by
  refine returnsInHanded_of_change_sized (C := Try.checked) own started (by kernel_rfl) Try.func4
    (ChangeSpec.witness6 (enc := enc) (C := Try.checked) false ⟨#[], #[.agg #[.slice none 0 0, .slice none 0 0]], []⟩ 8 (by kernel_rfl) (by kernel_rfl) (by kernel_rfl) (by kernel_rfl)) ?_
  intro W base args ds gs before hval0 hW hcnd hsz0 _
  have hsz : (DataW.weightsEach Try.prog (Try.f4.params.toList ++ Rows.fnExactLengthsOfSpec.plain.varTypes Try.prog) (ds ++ gs)).all (· ≤ reachBytes) = true := hsz0
  have hval : ∀ (j : Nat) t v, Try.f4.params[j]? = some t → args[j]? = some v → Value.okWide Try.prog W .any base t v := hval0
  have hW' := hW
  obtain ⟨p, q, hA0, hV, rfl, hfz, hnd⟩ := hW
  have hA : DataW.TrodAll enc Try.prog W 0 (fun _ => true) true Try.f4.params.toList args.toList ds p := hA0
  rw [Try.params4] at hA hval hsz
  obtain ⟨v0, vs0, d0, ds0, p0, q0, hargs, rfl, rfl, h0, r0⟩ := trodAll_cons hA
  obtain ⟨rfl, rfl, rfl⟩ := trodAll_nil r0
  obtain rfl : args = #[v0] := by cases args; simp_all
  obtain ⟨rfl, rfl⟩ := trodVars_none hV
  have k0 := h0
  have lt0 : ∀ x ∈ p0, x.block < W.heap.size := by obtain ⟨m, hm⟩ := k0; exact DataW.trod_lt m _ _ _ hm
  obtain ⟨u0_0, u0_1, y0_0, y0_1, n0, rfl, rfl, _, g0_0, g0_1⟩ := Go.Joins.open_agg2 Try.underlying25 (by kernel_rfl) (by kernel_rfl) (hval 0 25 v0 rfl rfl) h0
  obtain ⟨l0_0, aa, w0_0⟩ := (opens_slice (K := Kd.bool) 4 Try.underlying22 (by kernel_rfl) rfl (opens_bool Try.underlying4)) _ _ _ g0_0
  obtain ⟨A0_0, c0_0, rfl, hc0_0, hr0_0⟩ := slice_of aa
  obtain ⟨l0_1, ab, w0_1⟩ := (opens_slice (K := (Kd.slice 3 (Kd.int .i64))) 43 Try.underlying23 (by kernel_rfl) rfl (opens_slice (K := (Kd.int .i64)) 3 Try.underlying43 (by kernel_rfl) rfl (opens_int Try.underlying3))) _ _ _ g0_1
  obtain ⟨A0_1, c0_1, rfl, hc0_1, hr0_1⟩ := slice_of ab
  clear hA0 hval0 hsz0 hsz
  have hk := Pure.FnExactLengthsOf l0_0 l0_1 w0_0 w0_1
  refine (P.laws_FnExactLengthsOf.calls A0_0 c0_0 l0_0 A0_1 c0_1 l0_1 true W hr0_0 hc0_0 hr0_1 hc0_1 hk rfl).mono fun e W' hh => ?_
  obtain ⟨he, bel0⟩ := hh
  have bel : Below W.heap.size W W' := bel0
  subst he
  exact ⟨_, rfl, _, _, _, [], _, [], hW', trodAll_mk1 (shut_bool Try.underlying4 _), (trodAll_cons_mk (Below.trod laidOut (by kernel_rfl) (of_decide_eq_true (by kernel_rfl)) k0 bel lt0) trodAll_mk0), rfl, bel.frame _, fun h => by cases h⟩
theorem over : Rows.fnExactLengthsOfRow.holds Try.pinned (OpenSpec.ofChange Rows.fnExactLengthsOfSpec) :=
  OpenClaim.holds_of_wide 4 Try.f4 rfl rfl rfl rfl rfl rfl rfl ⟨rfl, rfl, rfl, rfl, rfl⟩ rfl rfl rfl rfl rfl (by kernel_rfl) Try.func4 (by kernel_rfl)
    (of_decide_eq_true (by kernel_rfl)) (by unfold Func.isWrapper; first | (rw [if_pos (by decide +kernel)]; kernel_rfl) | (rw [if_neg (by decide +kernel)]; exact ⟨rfl, rfl⟩))
    (fun os started H enc _ => lifted os started H enc)
theorem proved : Rows.FnExactLengthsOfSaid := over
#print axioms proved
end Go.Proofs.Ytpgdhpnmagmooaa.fnExactLengthsOf
namespace Go.Proofs.Ytpgdhpnmagmooaa
theorem fnExactLengthsOf_holds : Rows.FnExactLengthsOfSaid := fnExactLengthsOf.proved
end Go.Proofs.Ytpgdhpnmagmooaa
end
