/- Texts of the proof of FnExactDerivativeOf, put together. No condition. -/
import Derived.Test.YtldgkgdgcfllmaaQFnExactDerivativeOf2
import Derived.Test.YtldgkgdgcfllmaaQFnExactDerivativeOf3
import Derived.Test.YtldgkgdgcfllmaaQFnExactDerivativeOf9
import Derived.Test.YtldgkgdgcfllmaaQFnExactDerivativeOf8
import Derived.Deep.Slices
import Derived.Lib.SmallJoins
section
namespace Go.Proofs.Ytldgkgdgcfllmaa
open Go.RowKit Go.Shelf Go.Proofs.Ytldgkgdgcfllmaa.P Go.Proofs.Ytldgkgdgcfllmaa.Pl Go.Proofs.Ytldgkgdgcfllmaa.Rg Go.Proofs.YtldgkgdgcfllmaaW.PrintWords Go.Proofs.YtldgkgdgcfllmaaW.PrintLast Go.Proofs.YtldgkgdgcfllmaaW.PrintMore
set_option linter.unusedVariables false
set_option linter.unusedSimpArgs false
def Tc : Bool × List (List Nat × List Nat) := (true, [([], []), ([0], [0]), ([1], [1]), ([2], [2]), ([], []), ([3, 4], [3, 4]), ([], []), ([6], [6]), ([7], [7]), ([8], [8]), ([9, 5], [9]), ([5, 10], [5, 10]), ([11], [11]), ([], []), ([13, 12, 10, 0, 1, 2, 3, 4, 5, 6, 7, 8, 9, 10, 11, 12, 13], [12, 13])])
def Bc : List Nat := [0, 1, 3, 7, 0, 31, 0, 64, 192, 448, 1023, 2047, 4095, 0, 16383]
theorem bitsC : waitsOk Tc.2 Bc = true := by kernel_rfl
theorem tabCi : rtab .any (opsOf Try.f56 21) = Tc := by kernel_rfl
def Td : Bool × List (List Nat × List Nat) := (true, [([], []), ([], []), ([1], [1]), ([2], [2]), ([3], [3]), ([], []), ([4, 5], [4, 5]), ([0, 6], [0, 6]), ([7], [7]), ([8, 6, 0, 1, 2, 3, 4, 5, 6, 7, 8], [8])])
def Bd : List Nat := [0, 0, 2, 6, 14, 0, 62, 127, 255, 511]
theorem bitsD : waitsOk Td.2 Bd = true := by kernel_rfl
theorem tabDi : rtab .any (opsOf Try.f56 23) = Td := by kernel_rfl
set_option maxHeartbeats 8000000 in
set_option maxRecDepth 100000 in
theorem deCat (n : Nat) (l k0 : ByteArray) (a b q q2 : Tr) (x : Rx) (hx : Ax a x) (hs : sz x ≤ 100) (hT : Tall n b) (ih : CT 56 l a q) (ih2 : CT 56 l b q2) :
    CT 56 l ⟨5, k0, [a, b]⟩ (if lan x [] = true then ⟨6, ⟨#[]⟩, [⟨5, ⟨#[]⟩, [q, b]⟩, q2]⟩ else ⟨5, ⟨#[]⟩, [q, b]⟩) := by
  intro A c w hC hc
  obtain ⟨ad, A2, c2, y, rfl, ⟨rfl, -, -⟩, hxa, hl2, hC2⟩ := kid_ hC 0 (by simp)
  obtain ⟨_, A3, c3, y, e, ⟨rfl, -, -⟩, hxb, hl3, hC3⟩ := kid_ hC 1 (by simp)
  obtain rfl := Option.some.inj e
  rw [Nat.zero_mul, Addr.add_zero'] at hxa
  rw [Nat.one_mul] at hxb
  change w.cell? ad = some (.int .i64 a.f0) ∧ w.cell? ⟨ad.block, ad.off + 1, none⟩ = some (.string a.f1) ∧ w.cell? ⟨ad.block, ad.off + 2, none⟩ = some (.slice A2 a.f2.length c2) at hxa
  change w.cell? ⟨ad.block, ad.off + 3, none⟩ = some (.int .i64 b.f0) ∧ w.cell? ⟨ad.block, ad.off + 3 + 1, none⟩ = some (.string b.f1) ∧ w.cell? ⟨ad.block, ad.off + 3 + 2, none⟩ = some (.slice A3 b.f2.length c3) at hxb
  have HX := am_ (And.intro hxa.1 (And.intro hxa.2.1 (And.intro hxa.2.2 hxb)))
  have HC2 := am_ hC2
  have HL2 := am_ hl2
  have HC3 := am_ hC3
  have HL3 := am_ hl3
  have HT := am_ hT
  have H := Sl.start w
  have hu := Try.underlying29
  clear hxa hxb hC hc hC2 hl2 hC3 hl3 hT
  obtain ⟨res, hres⟩ : ∃ r, r = lan x [] := ⟨_, rfl⟩
  have HM : Aside0 (∀ w', Below w.heap.size w w' → Calls Try.prog 54 #[tv a A2 c2, .string ⟨#[]⟩] w' fun e w2 => e = .returned (.bool res) ∧ Below w'.heap.size w' w2) := ⟨fun w' hb => by
    have := matchesCalls A2 c2 a x ⟨#[]⟩ w' hx hs (by decide) (Kd.C_below HC2.out hb) HL2.out
    rw [show bytesOf ⟨#[]⟩ = [] from rfl, ← hres] at this
    exact this⟩
  rw [← hres]
  obtain ⟨qq, hqq⟩ : ∃ r : Tr, r = if res = true then ⟨6, ⟨#[]⟩, [⟨5, ⟨#[]⟩, [q, b]⟩, q2]⟩ else ⟨5, ⟨#[]⟩, [q, b]⟩ := ⟨_, rfl⟩
  rw [← hqq]
  have HQ := am_ hqq
  clear hx hs hres hqq
  show Calls Try.prog 56 #[.agg #[.int .i64 5, .string k0, .slice (some ad) 2 c], .string l] w _
  go_enter Try.func56, Try.ntmps56
  go_wp2_with (first | (refine nw_ H 2 #[.int .i64 5, .string k0, .slice (some ad) 2 c] 29 rfl ?_; intro g1 w1 H) | (refine nw_ H 4 zt 29 rfl ?_; intro g2 w1 H; have F0 := H.f3 0))
  have hx := HX.out
  replace hx := And.imp H.old (And.imp H.old (And.imp H.old (And.imp H.old (And.imp H.old H.old)))) hx
  refine start_ (n := 15) (S := (fun w' => w'.cell? ⟨g1, 2, none⟩ = some (.slice (some ad) 2 c) ∧ w'.cell? ad = some (.int .i64 a.f0) ∧ w'.cell? ⟨ad.block, ad.off + 1, none⟩ = some (.string a.f1) ∧ w'.cell? ⟨ad.block, ad.off + 2, none⟩ = some (.slice A2 a.f2.length c2) ∧ w'.cell? ⟨ad.block, ad.off + 3, none⟩ = some (.int .i64 b.f0) ∧ w'.cell? ⟨ad.block, ad.off + 3 + 1, none⟩ = some (.string b.f1) ∧ w'.cell? ⟨ad.block, ad.off + 3 + 2, none⟩ = some (.slice A3 b.f2.length c3))) (ds := [14]) (bl 15 0) (by kernel_rfl) rfl rfl (⟨F0.2.2.1, hx⟩) (fun hHeld => ?_); refine with_tabW tabCi bitsC (fun HT_ HW_ => ?_)
  clear F0 hx
  replace H := H.drew
  refine ph_ 0 60 (bl 15 1) HT_ ?_
  refine ph_ 4 64 (bl 15 17) HT_ ?_
  refine ph_ 6 66 (bl 15 81) HT_ ?_
  refine th_ 1 61 (bl 15 83) HT_ HW_ hHeld ?_
  refine ph_ 2 62 (bl 15 87) HT_ ?_
  refine th_ 3 63 (bl 15 95) HT_ HW_ hHeld ?_
  refine th_ 7 67 (bl 15 223) HT_ HW_ hHeld ?_
  refine ph_ 8 68 (bl 15 479) HT_ ?_
  refine th_ 9 69 (bl 15 991) HT_ HW_ hHeld ?_
  refine join_ (σ := Value × Value × Nat × Nat) 1 (bl 15 16383) (fun s_ => [(65, s_.1), (70, s_.2.1), (71, .slice (some ⟨s_.2.2.1, 0, none⟩) 2 2), (72, .agg #[.int .i64 5, .string ⟨#[]⟩, .slice (some ⟨s_.2.2.1, 0, none⟩) 2 2]), (8, .pointer (some ⟨s_.2.2.2, 0, none⟩))]) (fun s_ w' => Sl w w' [bx g1 #[.int .i64 5, .string k0, .slice (some ad) 2 c] 29, bx g2 zt 29, tre (.slice (some ⟨s_.2.2.1, 0, none⟩) 2 2) [q, b], bx s_.2.2.2 zt 29]) ?_ ?_
  rotate_left
  · intro hCont
    refine tw_ 5 13 (some 65) (some 8) (bl 15 1023) (bl 15 9183) HT_ (fun K hK => ?_) (fun K hK => ?_)
    · refine gO_ Try.func56 #[tv a A2 c2, .string l] ((ih A2 c2 _ (Kd.C_below HC2.out H.bel) HL2.out).mono ?_)
      rintro e w2 ⟨v2, rfl, H2⟩
      obtain ⟨A4, c4, rfl, -, -⟩ := H2.tv 0
      refine ⟨_, rfl, hK.out _ _ (sb_ H2.bel hHeld) (fun hHeld => ?_)⟩
      replace H := H.call H2
      clear hK K H2
      refine nm_ 65 ?_
      refine tw_ 10 13 (some 70) (some 8) (bl 15 2047) (bl 15 9215) HT_ (fun K hK => ?_) (fun K hK => ?_)
      · refine gO_ Try.func82 #[tv b A3 c3] ((cloneCalls n b A3 c3 _ HT.out (Kd.C_below HC3.out H.bel) HL3.out).mono ?_)
        rintro e w3 ⟨v3, rfl, H3⟩
        obtain ⟨A5, c5, rfl, -, -⟩ := H3.tv 0
        refine ⟨_, rfl, hK.out _ _ (sb_ H3.bel hHeld) (fun hHeld => ?_)⟩
        replace H := H.call H3
        clear hK K H3
        refine nm_ 70 ?_
        refine tw_ 11 13 (some 71) (some 8) (bl 15 4095) (bl 15 10239) HT_ (fun K hK => ?_) (fun K hK => ?_)
        · refine bb_ (t1 := q) (t2 := b) H 2 3 (fun h w6 H6 hb => ?_)
          refine hK.out _ _ (sb_ hb hHeld) (fun hHeld => ?_)
          clear hK K H hb
          have H := H6
          clear H6
          refine nm_ 71 ?_
          refine ph_ 12 72 (bl 15 8191) HT_ ?_
          refine on_ 13 (some 8) (bl 15 16383) HT_ (fun K hK => ?_)
          refine ns_ H 8 zt 29 rfl (fun ga w5 H5 hb => ?_)
          refine hK.out _ _ (sb_ hb hHeld) (fun hHeld => ?_)
          clear hK K H hb
          have H := H5
          clear H5
          refine nm_ 8 ?_
          exact ed_ (hCont (_, _, h, ga) _ (H.sel [0, 1, 2, 4]))
        · refine ns_ H 8 zt 29 rfl (fun ga w5 H5 hb => ?_)
          refine hK.out _ _ (sb_ hb hHeld) (fun hHeld => ?_)
          clear hK K H hb
          have H := H5
          clear H5
          refine nm_ 8 ?_
          refine on_ 11 (some 71) (bl 15 12287) HT_ (fun K hK => ?_)
          refine bb_ (t1 := q) (t2 := b) H 2 3 (fun h w6 H6 hb => ?_)
          refine hK.out _ _ (sb_ hb hHeld) (fun hHeld => ?_)
          clear hK K H hb
          have H := H6
          clear H6
          refine nm_ 71 ?_
          refine ph_ 12 72 (bl 15 16383) HT_ ?_
          exact ed_ (hCont (_, _, h, ga) _ (H.sel [0, 1, 2, 4]))
      · refine ns_ H 8 zt 29 rfl (fun ga w5 H5 hb => ?_)
        refine hK.out _ _ (sb_ hb hHeld) (fun hHeld => ?_)
        clear hK K H hb
        have H := H5
        clear H5
        refine nm_ 8 ?_
        refine on_ 10 (some 70) (bl 15 10239) HT_ (fun K hK => ?_)
        refine gO_ Try.func82 #[tv b A3 c3] ((cloneCalls n b A3 c3 _ HT.out (Kd.C_below HC3.out H.bel) HL3.out).mono ?_)
        rintro e w3 ⟨v3, rfl, H3⟩
        obtain ⟨A5, c5, rfl, -, -⟩ := H3.tv 0
        refine ⟨_, rfl, hK.out _ _ (sb_ H3.bel hHeld) (fun hHeld => ?_)⟩
        replace H := H.call H3
        clear hK K H3
        refine nm_ 70 ?_
        refine on_ 11 (some 71) (bl 15 12287) HT_ (fun K hK => ?_)
        refine bb_ (t1 := q) (t2 := b) H 2 4 (fun h w6 H6 hb => ?_)
        refine hK.out _ _ (sb_ hb hHeld) (fun hHeld => ?_)
        clear hK K H hb
        have H := H6
        clear H6
        refine nm_ 71 ?_
        refine ph_ 12 72 (bl 15 16383) HT_ ?_
        exact ed_ (hCont (_, _, h, ga) _ (H.sel [0, 1, 2, 3]))
    · refine ns_ H 8 zt 29 rfl (fun ga w5 H5 hb => ?_)
      refine hK.out _ _ (sb_ hb hHeld) (fun hHeld => ?_)
      clear hK K H hb
      have H := H5
      clear H5
      refine nm_ 8 ?_
      refine on_ 5 (some 65) (bl 15 9215) HT_ (fun K hK => ?_)
      refine gO_ Try.func56 #[tv a A2 c2, .string l] ((ih A2 c2 _ (Kd.C_below HC2.out H.bel) HL2.out).mono ?_)
      rintro e w2 ⟨v2, rfl, H2⟩
      obtain ⟨A4, c4, rfl, -, -⟩ := H2.tv 0
      refine ⟨_, rfl, hK.out _ _ (sb_ H2.bel hHeld) (fun hHeld => ?_)⟩
      replace H := H.call H2
      clear hK K H2
      refine nm_ 65 ?_
      refine on_ 10 (some 70) (bl 15 10239) HT_ (fun K hK => ?_)
      refine gO_ Try.func82 #[tv b A3 c3] ((cloneCalls n b A3 c3 _ HT.out (Kd.C_below HC3.out H.bel) HL3.out).mono ?_)
      rintro e w3 ⟨v3, rfl, H3⟩
      obtain ⟨A5, c5, rfl, -, -⟩ := H3.tv 0
      refine ⟨_, rfl, hK.out _ _ (sb_ H3.bel hHeld) (fun hHeld => ?_)⟩
      replace H := H.call H3
      clear hK K H3
      refine nm_ 70 ?_
      refine on_ 11 (some 71) (bl 15 12287) HT_ (fun K hK => ?_)
      refine bb_ (t1 := q) (t2 := b) H 3 4 (fun h w6 H6 hb => ?_)
      refine hK.out _ _ (sb_ hb hHeld) (fun hHeld => ?_)
      clear hK K H hb
      have H := H6
      clear H6
      refine nm_ 71 ?_
      refine ph_ 12 72 (bl 15 16383) HT_ ?_
      exact ed_ (hCont (_, _, h, ga) _ (H.sel [0, 1, 3, 2]))
  rintro ⟨u65, u70, h, ga⟩ w7 H
  refine norm_ (a' := ?_) ?_ ?_
  rotate_left
  · show putAll _ _ = _
    simp only [putAll, Act.put, List.setIfInBounds_toArray, List.set_cons_zero, List.set_cons_succ]
    rfl
  dsimp only at H
  refine last_ (i := 14) (N := none) (bl 15 32767) rfl rfl (one_of HT_.out (by kernel_rfl)) (by decide) (fun K hK => ?_)
  have F3 := H.f3 3
  refine s3_ H 3 (fun w8 H => ?_)
  refine hK.out _ _ ?_
  clear hK K F3
  refine done_ (done_of HT_.out (by kernel_rfl)) ?_
  clear HT_ HW_
  have hx := HX.out
  replace hx := And.imp H.old (And.imp H.old (And.imp H.old (And.imp H.old (And.imp H.old H.old)))) hx
  have F0 := H.f3 0
  cases res
  · have e := HQ.out
    rw [if_neg (by decide)] at e
    subst e
    go_wp2_with (first | ((with_reducible refine gate_callee (f := 54) rfl ?_); refine gL_ (some 77) Try.func54 #[tv a A2 c2, .string ⟨#[]⟩] ((HM.out _ H.bel).mono ?_); rintro e w9 ⟨rfl, hb⟩; refine ⟨_, rfl, ?_⟩; replace H := H.only hb; clear hx F0 hb; have F1 := H.f3 1; have F3 := H.f3 3) | (refine p3_ H 4 1 rfl ?_; clear H F1 F3; intro w1 H))
    refine bodyPost_ret (results_cell_row rfl _ _ g2 29 _ (0, 0) _ rfl (H.blk 1 rfl) hu rfl (by kernel_rfl)) rfl ?_
    exact ⟨_, rfl, H.one 2⟩
  · have e := HQ.out
    rw [if_pos rfl] at e
    subst e
    go_wp2_with ((with_reducible refine gate_callee (f := 54) rfl ?_); refine gL_ (some 77) Try.func54 #[tv a A2 c2, .string ⟨#[]⟩] ((HM.out _ H.bel).mono ?_); rintro e w9 ⟨rfl, hb⟩; refine ⟨_, rfl, ?_⟩; replace H := H.only hb; clear hx F0 hb)
    have hx := HX.out.2.2.2
    replace hx := And.imp H.old (And.imp H.old H.old) hx
    have F0 := H.f3 0
    have F3 := H.f3 3
    refine start_ (n := 10) (S := (fun w' => w'.cell? ⟨g1, 2, none⟩ = some (.slice (some ad) 2 c) ∧ w'.cell? ⟨ga, 0, none⟩ = some (.int .i64 5) ∧ w'.cell? ⟨ga, 1, none⟩ = some (.string ⟨#[]⟩) ∧ w'.cell? ⟨ga, 2, none⟩ = some (.slice (some ⟨h, 0, none⟩) 2 2) ∧ w'.cell? ⟨ad.block, ad.off + 3, none⟩ = some (.int .i64 b.f0) ∧ w'.cell? ⟨ad.block, ad.off + 3 + 1, none⟩ = some (.string b.f1) ∧ w'.cell? ⟨ad.block, ad.off + 3 + 2, none⟩ = some (.slice A3 b.f2.length c3))) (ds := [7, 9]) (bl 10 0) (by kernel_rfl) rfl rfl (⟨F0.2.2.1, F3.1.1, F3.2.1.1, F3.2.2.1, hx⟩) (fun hHeld => ?_); refine with_tabW tabDi bitsD (fun HT_ HW_ => ?_)
    clear F0 F3 hx
    replace H := H.drew
    refine ph_ 1 79 (bl 10 2) HT_ ?_
    refine ph_ 5 83 (bl 10 34) HT_ ?_
    refine th_ 0 78 (bl 10 35) HT_ HW_ hHeld ?_
    refine th_ 2 80 (bl 10 39) HT_ HW_ hHeld ?_
    refine ph_ 3 81 (bl 10 47) HT_ ?_
    refine th_ 4 82 (bl 10 63) HT_ HW_ hHeld ?_
    refine on_ 6 (some 84) (bl 10 127) HT_ (fun K hK => ?_)
    refine gO_ Try.func56 #[tv b A3 c3, .string l] ((ih2 A3 c3 _ (Kd.C_below HC3.out H.bel) HL3.out).mono ?_)
    rintro e w2 ⟨v2, rfl, H2⟩
    obtain ⟨A4, c4, rfl, -, -⟩ := H2.tv 0
    replace H := H.call H2
    refine ⟨_, rfl, ?_⟩
    refine hK.out _ _ ((sb_ H2.bel hHeld)) (fun hHeld => ?_)
    clear hK K
    refine nm_ 84 ?_
    refine last_ (i := 7) (N := some 85) (bl 10 255) rfl rfl (one_of HT_.out (by kernel_rfl)) (by decide) (fun K hK => ?_)
    refine bb_ (t1 := ⟨5, ⟨#[]⟩, [q, b]⟩) (t2 := q2) H 2 4 (fun h2 w11 H _ => ?_)
    refine hK.out _ _ ?_
    clear hK K
    refine nm_ 85 ?_
    refine ph_ 8 86 (bl 10 511) HT_ ?_
    refine last_ (i := 9) (N := none) (bl 10 1023) rfl rfl (one_of HT_.out (by kernel_rfl)) (by decide) (fun K hK => ?_)
    have F1 := H.f3 1
    refine s3_ H 1 (fun w4 H => ?_)
    refine hK.out _ _ ?_
    clear hK K F1
    refine done_ (done_of HT_.out (by kernel_rfl)) ?_
    clear HT_ HW_ hHeld
    go_wp2
    refine bodyPost_ret (results_cell_row rfl _ _ g2 29 _ (0, 0) _ rfl (H.blk 1 rfl) hu rfl (by kernel_rfl)) rfl ?_
    exact ⟨_, rfl, H.one 2⟩
end Go.Proofs.Ytldgkgdgcfllmaa
end
section
namespace Go.Proofs.Ytldgkgdgcfllmaa
open Go.RowKit Go.Shelf Go.Proofs.Ytldgkgdgcfllmaa.P Go.Proofs.Ytldgkgdgcfllmaa.Pl Go.Proofs.Ytldgkgdgcfllmaa.Rg Go.Proofs.YtldgkgdgcfllmaaW.PrintWords Go.Proofs.YtldgkgdgcfllmaaW.PrintLast Go.Proofs.YtldgkgdgcfllmaaW.PrintMore
set_option linter.unusedVariables false
set_option linter.unusedSimpArgs false
theorem tabSs : rtab .any (opsOf Try.f55 17) = Ts := by kernel_rfl
set_option maxHeartbeats 4000000 in
set_option maxRecDepth 100000 in
theorem dsStar (n : Nat) (l k0 : ByteArray) (a q : Tr) (hT : Tall n ⟨8, k0, [a]⟩) (ih : CT 55 l a q) : CT 55 l ⟨8, k0, [a]⟩ ⟨5, ⟨#[]⟩, [q, ⟨8, k0, [a]⟩]⟩ := by
  intro A c w hC hc
  obtain ⟨ad, A2, c2, y, rfl, ⟨rfl, -, -⟩, hx, hl2, hC2⟩ := kid_ hC 0 (by simp)
  rw [Nat.zero_mul, Addr.add_zero'] at hx
  change w.cell? ad = some (.int .i64 a.f0) ∧ w.cell? ⟨ad.block, ad.off + 1, none⟩ = some (.string a.f1) ∧ w.cell? ⟨ad.block, ad.off + 2, none⟩ = some (.slice A2 a.f2.length c2) at hx
  have HX := am_ hx
  have HC := am_ hC
  have HC2 := am_ hC2
  have HL2 := am_ hl2
  have HL := am_ hc
  have H := Sl.start w
  have hu := Try.underlying29
  clear hx hC hc hC2 hl2
  show Calls Try.prog 55 #[.agg #[.int .i64 8, .string k0, .slice (some ad) 1 c], .string l] w _
  go_enter Try.func55, Try.ntmps55
  go_wp2_with (first | (refine nw_ H 2 #[.int .i64 8, .string k0, .slice (some ad) 1 c] 29 rfl ?_; intro g1 w1 H) | (refine nw_ H 4 zt 29 rfl ?_; intro g2 w1 H; have F0 := H.f3 0))
  have hx := HX.out
  replace hx := And.imp H.old (And.imp H.old H.old) hx
  refine start_ (n := 11) (S := (fun w' => w'.cell? ⟨g1, 0, none⟩ = some (.int .i64 8) ∧ w'.cell? ⟨g1, 1, none⟩ = some (.string k0) ∧ w'.cell? ⟨g1, 2, none⟩ = some (.slice (some ad) 1 c) ∧ w'.cell? ad = some (.int .i64 a.f0) ∧ w'.cell? ⟨ad.block, ad.off + 1, none⟩ = some (.string a.f1) ∧ w'.cell? ⟨ad.block, ad.off + 2, none⟩ = some (.slice A2 a.f2.length c2))) (ds := [8, 10]) (bl 11 0) (by kernel_rfl) rfl rfl (⟨F0.1.1, F0.2.1.1, F0.2.2.1, hx⟩) (fun hHeld => ?_); refine with_tabW tabSs bitsS (fun HT_ HW_ => ?_)
  clear F0 hx
  replace H := H.drew
  refine ph_ 0 49 (bl 11 1) HT_ ?_
  refine ph_ 4 53 (bl 11 17) HT_ ?_
  refine th_ 1 50 (bl 11 19) HT_ HW_ hHeld ?_
  refine ph_ 2 51 (bl 11 23) HT_ ?_
  refine th_ 3 52 (bl 11 31) HT_ HW_ hHeld ?_
  refine th_ 6 55 (bl 11 95) HT_ HW_ hHeld ?_
  refine on_ 5 (some 54) (bl 11 127) HT_ (fun K hK => ?_)
  refine gO_ Try.func55 #[tv a A2 c2, .string l] ?_
  refine (ih A2 c2 _ (Kd.C_below HC2.out H.bel) HL2.out).mono ?_
  rintro e w2 ⟨v2, rfl, H2⟩
  replace H := H.call H2
  refine ⟨_, rfl, ?_⟩
  refine hK.out _ _ ((sb_ H2.bel hHeld)) (fun hHeld => ?_)
  clear hK K
  refine nm_ 54 ?_
  refine on_ 7 (some 56) (bl 11 255) HT_ (fun K hK => ?_)
  refine gO_ Try.func81 #[.agg #[.int .i64 8, .string k0, .slice (some ad) 1 c]] ?_
  refine (copyCalls n ⟨8, k0, [a]⟩ (some ad) c _ hT (Kd.C_below HC.out H.bel) HL.out).mono ?_
  rintro e w3 ⟨v3, rfl, H3⟩
  replace H := H.call H3
  refine ⟨_, rfl, ?_⟩
  refine hK.out _ _ ((sb_ H3.bel hHeld)) (fun hHeld => ?_)
  clear hK K
  refine nm_ 56 ?_
  obtain ⟨A3, c3, rfl, -, -⟩ := H.tv 2
  obtain ⟨A4, c4, (rfl : v3 = .slice A4 1 c4), -, -⟩ := H.tv 3
  refine last_ (i := 8) (N := some 57) (bl 11 511) rfl rfl (one_of HT_.out (by kernel_rfl)) (by decide) (fun K hK => ?_)
  refine value_ (w1 := ?_) (v := ?_) (by rfl) rfl ?_ ?_
  rotate_left 2
  · go_simp
    constructor
    · rfl
    · rfl
  refine hK.out _ _ ?_
  clear hK K
  refine nm_ 57 ?_
  replace H := H.lit2 (t1 := q) (t2 := ⟨8, k0, [a]⟩) 2 3 rfl rfl (by decide)
  refine ph_ 9 58 (bl 11 1023) HT_ ?_
  refine last_ (i := 10) (N := none) (bl 11 2047) rfl rfl (one_of HT_.out (by kernel_rfl)) (by decide) (fun K hK => ?_)
  have F1 := H.f3 1
  refine s3_ H 1 (fun w4 H => ?_)
  refine hK.out _ _ ?_
  clear hK K F1
  refine done_ (done_of HT_.out (by kernel_rfl)) ?_
  clear HT_ HW_ hHeld
  go_wp2
  refine bodyPost_ret (results_cell_row rfl _ _ g2 29 _ (0, 0) _ rfl (H.blk 1 rfl) hu rfl (by kernel_rfl)) rfl ?_
  exact ⟨_, rfl, H.one 2⟩
set_option maxHeartbeats 4000000 in
set_option maxRecDepth 100000 in
theorem dsLeaf (l k0 : ByteArray) (k : Int) (q : Tr) (h : ((k = 1 ∨ k = 2) ∧ q = ⟨1, ⟨#[]⟩, []⟩) ∨ (k = 4 ∧ q = ⟨2, ⟨#[]⟩, []⟩) ∨ k = 3 ∧ q = ⟨if k0 = l then 2 else 1, ⟨#[]⟩, []⟩) : CT 55 l ⟨k, k0, []⟩ q := by
  intro A c w hC hc
  have H := Sl.start w
  have hu := Try.underlying29
  clear hC hc
  show Calls Try.prog 55 #[.agg #[.int .i64 k, .string k0, .slice A 0 c], .string l] w _
  rcases h with ⟨rfl | rfl, rfl⟩ | ⟨rfl, rfl⟩ | ⟨rfl, rfl⟩
  rotate_right
  · by_cases e : k0 = l
    · have e1 : (k0.toList == l.toList) = true := beq_iff_eq.mpr (by rw [e])
      rw [if_pos e]
      clear e
      go_enter Try.func55, Try.ntmps55
      go_wp2_with (first | (refine nw_ H 2 #[.int .i64 _, .string k0, .slice A 0 c] 29 rfl ?_; intro g1 w1 H) | (refine nw_ H 4 zt 29 rfl ?_; intro g2 w1 H; have F0 := H.f3 0; have F1 := H.f3 1) | (refine p3_ H 4 1 rfl ?_; clear F0 F1; intro w1 H))
      refine bodyPost_ret (results_cell_row rfl _ _ g2 29 _ (0, 0) _ rfl (H.blk 1 rfl) hu rfl (by kernel_rfl)) rfl ?_
      exact ⟨_, rfl, (sub_nil H).one 2⟩
    · have e1 : (k0.toList == l.toList) = false := beq_eq_false_iff_ne.mpr (fun h => e (toList_iff.mp h))
      rw [if_neg e]
      clear e
      go_enter Try.func55, Try.ntmps55
      go_wp2_with (first | (refine nw_ H 2 #[.int .i64 _, .string k0, .slice A 0 c] 29 rfl ?_; intro g1 w1 H) | (refine nw_ H 4 zt 29 rfl ?_; intro g2 w1 H; have F0 := H.f3 0; have F1 := H.f3 1) | (refine p3_ H 4 1 rfl ?_; clear F0 F1; intro w1 H))
      refine bodyPost_ret (results_cell_row rfl _ _ g2 29 _ (0, 0) _ rfl (H.blk 1 rfl) hu rfl (by kernel_rfl)) rfl ?_
      exact ⟨_, rfl, (sub_nil H).one 2⟩
  all_goals
    go_enter Try.func55, Try.ntmps55
    go_wp2_with (first | (refine nw_ H 2 #[.int .i64 _, .string k0, .slice A 0 c] 29 rfl ?_; intro g1 w1 H) | (refine nw_ H 4 zt 29 rfl ?_; intro g2 w1 H; have F0 := H.f3 0; have F1 := H.f3 1) | (refine p3_ H 4 1 rfl ?_; clear F0 F1; intro w1 H))
    refine bodyPost_ret (results_cell_row rfl _ _ g2 29 _ (0, 0) _ rfl (H.blk 1 rfl) hu rfl (by kernel_rfl)) rfl ?_
    exact ⟨_, rfl, (sub_nil H).one 2⟩
end Go.Proofs.Ytldgkgdgcfllmaa
end
section
namespace Go.Proofs.Ytldgkgdgcfllmaa
open Go.RowKit Go.Shelf Go.Proofs.Ytldgkgdgcfllmaa.P Go.Proofs.Ytldgkgdgcfllmaa.Pl Go.Proofs.Ytldgkgdgcfllmaa.Rg Go.Proofs.YtldgkgdgcfllmaaW.PrintWords Go.Proofs.YtldgkgdgcfllmaaW.PrintLast Go.Proofs.YtldgkgdgcfllmaaW.PrintMore
set_option linter.unusedVariables false
set_option linter.unusedSimpArgs false
theorem tabCs : rtab .any (opsOf Try.f55 19) = Tc := by kernel_rfl
theorem tabDs : rtab .any (opsOf Try.f55 21) = Td := by kernel_rfl
set_option maxHeartbeats 8000000 in
set_option maxRecDepth 100000 in
theorem dsCat (n : Nat) (l k0 : ByteArray) (a b q q2 : Tr) (x : Rx) (hx : Ax a x) (hs : sz x ≤ 100) (hT : Tall n b) (ih : CT 55 l a q) (ih2 : CT 55 l b q2) :
    CT 55 l ⟨5, k0, [a, b]⟩ (if lan x [] = true then ⟨6, ⟨#[]⟩, [⟨5, ⟨#[]⟩, [q, b]⟩, q2]⟩ else ⟨5, ⟨#[]⟩, [q, b]⟩) := by
  intro A c w hC hc
  obtain ⟨ad, A2, c2, y, rfl, ⟨rfl, -, -⟩, hxa, hl2, hC2⟩ := kid_ hC 0 (by simp)
  obtain ⟨_, A3, c3, y, e, ⟨rfl, -, -⟩, hxb, hl3, hC3⟩ := kid_ hC 1 (by simp)
  obtain rfl := Option.some.inj e
  rw [Nat.zero_mul, Addr.add_zero'] at hxa
  rw [Nat.one_mul] at hxb
  change w.cell? ad = some (.int .i64 a.f0) ∧ w.cell? ⟨ad.block, ad.off + 1, none⟩ = some (.string a.f1) ∧ w.cell? ⟨ad.block, ad.off + 2, none⟩ = some (.slice A2 a.f2.length c2) at hxa
  change w.cell? ⟨ad.block, ad.off + 3, none⟩ = some (.int .i64 b.f0) ∧ w.cell? ⟨ad.block, ad.off + 3 + 1, none⟩ = some (.string b.f1) ∧ w.cell? ⟨ad.block, ad.off + 3 + 2, none⟩ = some (.slice A3 b.f2.length c3) at hxb
  have HX := am_ (And.intro hxa.1 (And.intro hxa.2.1 (And.intro hxa.2.2 hxb)))
  have HC2 := am_ hC2
  have HL2 := am_ hl2
  have HC3 := am_ hC3
  have HL3 := am_ hl3
  have HT := am_ hT
  have H := Sl.start w
  have hu := Try.underlying29
  clear hxa hxb hC hc hC2 hl2 hC3 hl3 hT
  obtain ⟨res, hres⟩ : ∃ r, r = lan x [] := ⟨_, rfl⟩
  have HM : Aside0 (∀ w', Below w.heap.size w w' → Calls Try.prog 52 #[tv a A2 c2, .string ⟨#[]⟩] w' fun e w2 => e = .returned (.bool res) ∧ Below w'.heap.size w' w2) := ⟨fun w' hb => by
    have := l4MatchCalls A2 c2 a x ⟨#[]⟩ w' hx (by omega) (by decide) (Kd.C_below HC2.out hb)
    rw [show bytesOf ⟨#[]⟩ = [] from rfl, ← hres] at this
    exact this⟩
  rw [← hres]
  obtain ⟨qq, hqq⟩ : ∃ r : Tr, r = if res = true then ⟨6, ⟨#[]⟩, [⟨5, ⟨#[]⟩, [q, b]⟩, q2]⟩ else ⟨5, ⟨#[]⟩, [q, b]⟩ := ⟨_, rfl⟩
  rw [← hqq]
  have HQ := am_ hqq
  clear hx hs hres hqq
  show Calls Try.prog 55 #[.agg #[.int .i64 5, .string k0, .slice (some ad) 2 c], .string l] w _
  go_enter Try.func55, Try.ntmps55
  go_wp2_with (first | (refine nw_ H 2 #[.int .i64 5, .string k0, .slice (some ad) 2 c] 29 rfl ?_; intro g1 w1 H) | (refine nw_ H 4 zt 29 rfl ?_; intro g2 w1 H; have F0 := H.f3 0))
  have hx := HX.out
  replace hx := And.imp H.old (And.imp H.old (And.imp H.old (And.imp H.old (And.imp H.old H.old)))) hx
  refine start_ (n := 15) (S := (fun w' => w'.cell? ⟨g1, 2, none⟩ = some (.slice (some ad) 2 c) ∧ w'.cell? ad = some (.int .i64 a.f0) ∧ w'.cell? ⟨ad.block, ad.off + 1, none⟩ = some (.string a.f1) ∧ w'.cell? ⟨ad.block, ad.off + 2, none⟩ = some (.slice A2 a.f2.length c2) ∧ w'.cell? ⟨ad.block, ad.off + 3, none⟩ = some (.int .i64 b.f0) ∧ w'.cell? ⟨ad.block, ad.off + 3 + 1, none⟩ = some (.string b.f1) ∧ w'.cell? ⟨ad.block, ad.off + 3 + 2, none⟩ = some (.slice A3 b.f2.length c3))) (ds := [14]) (bl 15 0) (by kernel_rfl) rfl rfl (⟨F0.2.2.1, hx⟩) (fun hHeld => ?_); refine with_tabW tabCs bitsC (fun HT_ HW_ => ?_)
  clear F0 hx
  replace H := H.drew
  refine ph_ 0 61 (bl 15 1) HT_ ?_
  refine ph_ 4 65 (bl 15 17) HT_ ?_
  refine ph_ 6 67 (bl 15 81) HT_ ?_
  refine th_ 1 62 (bl 15 83) HT_ HW_ hHeld ?_
  refine ph_ 2 63 (bl 15 87) HT_ ?_
  refine th_ 3 64 (bl 15 95) HT_ HW_ hHeld ?_
  refine th_ 7 68 (bl 15 223) HT_ HW_ hHeld ?_
  refine ph_ 8 69 (bl 15 479) HT_ ?_
  refine th_ 9 70 (bl 15 991) HT_ HW_ hHeld ?_
  refine join_ (σ := Value × Value × Nat × Nat) 1 (bl 15 16383) (fun s_ => [(66, s_.1), (71, s_.2.1), (72, .slice (some ⟨s_.2.2.1, 0, none⟩) 2 2), (73, .agg #[.int .i64 5, .string ⟨#[]⟩, .slice (some ⟨s_.2.2.1, 0, none⟩) 2 2]), (7, .pointer (some ⟨s_.2.2.2, 0, none⟩))]) (fun s_ w' => Sl w w' [bx g1 #[.int .i64 5, .string k0, .slice (some ad) 2 c] 29, bx g2 zt 29, tre (.slice (some ⟨s_.2.2.1, 0, none⟩) 2 2) [q, b], bx s_.2.2.2 zt 29]) ?_ ?_
  rotate_left
  · intro hCont
    refine tw_ 5 13 (some 66) (some 7) (bl 15 1023) (bl 15 9183) HT_ (fun K hK => ?_) (fun K hK => ?_)
    · refine gO_ Try.func55 #[tv a A2 c2, .string l] ((ih A2 c2 _ (Kd.C_below HC2.out H.bel) HL2.out).mono ?_)
      rintro e w2 ⟨v2, rfl, H2⟩
      obtain ⟨A4, c4, rfl, -, -⟩ := H2.tv 0
      refine ⟨_, rfl, hK.out _ _ (sb_ H2.bel hHeld) (fun hHeld => ?_)⟩
      replace H := H.call H2
      clear hK K H2
      refine nm_ 66 ?_
      refine tw_ 10 13 (some 71) (some 7) (bl 15 2047) (bl 15 9215) HT_ (fun K hK => ?_) (fun K hK => ?_)
      · refine gO_ Try.func81 #[tv b A3 c3] ((copyCalls n b A3 c3 _ HT.out (Kd.C_below HC3.out H.bel) HL3.out).mono ?_)
        rintro e w3 ⟨v3, rfl, H3⟩
        obtain ⟨A5, c5, rfl, -, -⟩ := H3.tv 0
        refine ⟨_, rfl, hK.out _ _ (sb_ H3.bel hHeld) (fun hHeld => ?_)⟩
        replace H := H.call H3
        clear hK K H3
        refine nm_ 71 ?_
        refine tw_ 11 13 (some 72) (some 7) (bl 15 4095) (bl 15 10239) HT_ (fun K hK => ?_) (fun K hK => ?_)
        · refine bb_ (t1 := q) (t2 := b) H 2 3 (fun h w6 H6 hb => ?_)
          refine hK.out _ _ (sb_ hb hHeld) (fun hHeld => ?_)
          clear hK K H hb
          have H := H6
          clear H6
          refine nm_ 72 ?_
          refine ph_ 12 73 (bl 15 8191) HT_ ?_
          refine on_ 13 (some 7) (bl 15 16383) HT_ (fun K hK => ?_)
          refine ns_ H 7 zt 29 rfl (fun ga w5 H5 hb => ?_)
          refine hK.out _ _ (sb_ hb hHeld) (fun hHeld => ?_)
          clear hK K H hb
          have H := H5
          clear H5
          refine nm_ 7 ?_
          exact ed_ (hCont (_, _, h, ga) _ (H.sel [0, 1, 2, 4]))
        · refine ns_ H 7 zt 29 rfl (fun ga w5 H5 hb => ?_)
          refine hK.out _ _ (sb_ hb hHeld) (fun hHeld => ?_)
          clear hK K H hb
          have H := H5
          clear H5
          refine nm_ 7 ?_
          refine on_ 11 (some 72) (bl 15 12287) HT_ (fun K hK => ?_)
          refine bb_ (t1 := q) (t2 := b) H 2 3 (fun h w6 H6 hb => ?_)
          refine hK.out _ _ (sb_ hb hHeld) (fun hHeld => ?_)
          clear hK K H hb
          have H := H6
          clear H6
          refine nm_ 72 ?_
          refine ph_ 12 73 (bl 15 16383) HT_ ?_
          exact ed_ (hCont (_, _, h, ga) _ (H.sel [0, 1, 2, 4]))
      · refine ns_ H 7 zt 29 rfl (fun ga w5 H5 hb => ?_)
        refine hK.out _ _ (sb_ hb hHeld) (fun hHeld => ?_)
        clear hK K H hb
        have H := H5
        clear H5
        refine nm_ 7 ?_
        refine on_ 10 (some 71) (bl 15 10239) HT_ (fun K hK => ?_)
        refine gO_ Try.func81 #[tv b A3 c3] ((copyCalls n b A3 c3 _ HT.out (Kd.C_below HC3.out H.bel) HL3.out).mono ?_)
        rintro e w3 ⟨v3, rfl, H3⟩
        obtain ⟨A5, c5, rfl, -, -⟩ := H3.tv 0
        refine ⟨_, rfl, hK.out _ _ (sb_ H3.bel hHeld) (fun hHeld => ?_)⟩
        replace H := H.call H3
        clear hK K H3
        refine nm_ 71 ?_
        refine on_ 11 (some 72) (bl 15 12287) HT_ (fun K hK => ?_)
        refine bb_ (t1 := q) (t2 := b) H 2 4 (fun h w6 H6 hb => ?_)
        refine hK.out _ _ (sb_ hb hHeld) (fun hHeld => ?_)
        clear hK K H hb
        have H := H6
        clear H6
        refine nm_ 72 ?_
        refine ph_ 12 73 (bl 15 16383) HT_ ?_
        exact ed_ (hCont (_, _, h, ga) _ (H.sel [0, 1, 2, 3]))
    · refine ns_ H 7 zt 29 rfl (fun ga w5 H5 hb => ?_)
      refine hK.out _ _ (sb_ hb hHeld) (fun hHeld => ?_)
      clear hK K H hb
      have H := H5
      clear H5
      refine nm_ 7 ?_
      refine on_ 5 (some 66) (bl 15 9215) HT_ (fun K hK => ?_)
      refine gO_ Try.func55 #[tv a A2 c2, .string l] ((ih A2 c2 _ (Kd.C_below HC2.out H.bel) HL2.out).mono ?_)
      rintro e w2 ⟨v2, rfl, H2⟩
      obtain ⟨A4, c4, rfl, -, -⟩ := H2.tv 0
      refine ⟨_, rfl, hK.out _ _ (sb_ H2.bel hHeld) (fun hHeld => ?_)⟩
      replace H := H.call H2
      clear hK K H2
      refine nm_ 66 ?_
      refine on_ 10 (some 71) (bl 15 10239) HT_ (fun K hK => ?_)
      refine gO_ Try.func81 #[tv b A3 c3] ((copyCalls n b A3 c3 _ HT.out (Kd.C_below HC3.out H.bel) HL3.out).mono ?_)
      rintro e w3 ⟨v3, rfl, H3⟩
      obtain ⟨A5, c5, rfl, -, -⟩ := H3.tv 0
      refine ⟨_, rfl, hK.out _ _ (sb_ H3.bel hHeld) (fun hHeld => ?_)⟩
      replace H := H.call H3
      clear hK K H3
      refine nm_ 71 ?_
      refine on_ 11 (some 72) (bl 15 12287) HT_ (fun K hK => ?_)
      refine bb_ (t1 := q) (t2 := b) H 3 4 (fun h w6 H6 hb => ?_)
      refine hK.out _ _ (sb_ hb hHeld) (fun hHeld => ?_)
      clear hK K H hb
      have H := H6
      clear H6
      refine nm_ 72 ?_
      refine ph_ 12 73 (bl 15 16383) HT_ ?_
      exact ed_ (hCont (_, _, h, ga) _ (H.sel [0, 1, 3, 2]))
  rintro ⟨u65, u70, h, ga⟩ w7 H
  refine norm_ (a' := ?_) ?_ ?_
  rotate_left
  · show putAll _ _ = _
    simp only [putAll, Act.put, List.setIfInBounds_toArray, List.set_cons_zero, List.set_cons_succ]
    rfl
  dsimp only at H
  refine last_ (i := 14) (N := none) (bl 15 32767) rfl rfl (one_of HT_.out (by kernel_rfl)) (by decide) (fun K hK => ?_)
  have F3 := H.f3 3
  refine s3_ H 3 (fun w8 H => ?_)
  refine hK.out _ _ ?_
  clear hK K F3
  refine done_ (done_of HT_.out (by kernel_rfl)) ?_
  clear HT_ HW_
  have hx := HX.out
  replace hx := And.imp H.old (And.imp H.old (And.imp H.old (And.imp H.old (And.imp H.old H.old)))) hx
  have F0 := H.f3 0
  cases res
  · have e := HQ.out
    rw [if_neg (by decide)] at e
    subst e
    go_wp2_with (first | ((with_reducible refine gate_callee (f := 52) rfl ?_); refine gL_ (some 78) Try.func52 #[tv a A2 c2, .string ⟨#[]⟩] ((HM.out _ H.bel).mono ?_); rintro e w9 ⟨rfl, hb⟩; refine ⟨_, rfl, ?_⟩; replace H := H.only hb; clear hx F0 hb; have F1 := H.f3 1; have F3 := H.f3 3) | (refine p3_ H 4 1 rfl ?_; clear H F1 F3; intro w1 H))
    refine bodyPost_ret (results_cell_row rfl _ _ g2 29 _ (0, 0) _ rfl (H.blk 1 rfl) hu rfl (by kernel_rfl)) rfl ?_
    exact ⟨_, rfl, H.one 2⟩
  · have e := HQ.out
    rw [if_pos rfl] at e
    subst e
    go_wp2_with ((with_reducible refine gate_callee (f := 52) rfl ?_); refine gL_ (some 78) Try.func52 #[tv a A2 c2, .string ⟨#[]⟩] ((HM.out _ H.bel).mono ?_); rintro e w9 ⟨rfl, hb⟩; refine ⟨_, rfl, ?_⟩; replace H := H.only hb; clear hx F0 hb)
    have hx := HX.out.2.2.2
    replace hx := And.imp H.old (And.imp H.old H.old) hx
    have F0 := H.f3 0
    have F3 := H.f3 3
    refine start_ (n := 10) (S := (fun w' => w'.cell? ⟨g1, 2, none⟩ = some (.slice (some ad) 2 c) ∧ w'.cell? ⟨ga, 0, none⟩ = some (.int .i64 5) ∧ w'.cell? ⟨ga, 1, none⟩ = some (.string ⟨#[]⟩) ∧ w'.cell? ⟨ga, 2, none⟩ = some (.slice (some ⟨h, 0, none⟩) 2 2) ∧ w'.cell? ⟨ad.block, ad.off + 3, none⟩ = some (.int .i64 b.f0) ∧ w'.cell? ⟨ad.block, ad.off + 3 + 1, none⟩ = some (.string b.f1) ∧ w'.cell? ⟨ad.block, ad.off + 3 + 2, none⟩ = some (.slice A3 b.f2.length c3))) (ds := [7, 9]) (bl 10 0) (by kernel_rfl) rfl rfl (⟨F0.2.2.1, F3.1.1, F3.2.1.1, F3.2.2.1, hx⟩) (fun hHeld => ?_); refine with_tabW tabDs bitsD (fun HT_ HW_ => ?_)
    clear F0 F3 hx
    replace H := H.drew
    refine ph_ 1 80 (bl 10 2) HT_ ?_
    refine ph_ 5 84 (bl 10 34) HT_ ?_
    refine th_ 0 79 (bl 10 35) HT_ HW_ hHeld ?_
    refine th_ 2 81 (bl 10 39) HT_ HW_ hHeld ?_
    refine ph_ 3 82 (bl 10 47) HT_ ?_
    refine th_ 4 83 (bl 10 63) HT_ HW_ hHeld ?_
    refine on_ 6 (some 85) (bl 10 127) HT_ (fun K hK => ?_)
    refine gO_ Try.func55 #[tv b A3 c3, .string l] ((ih2 A3 c3 _ (Kd.C_below HC3.out H.bel) HL3.out).mono ?_)
    rintro e w2 ⟨v2, rfl, H2⟩
    obtain ⟨A4, c4, rfl, -, -⟩ := H2.tv 0
    replace H := H.call H2
    refine ⟨_, rfl, ?_⟩
    refine hK.out _ _ ((sb_ H2.bel hHeld)) (fun hHeld => ?_)
    clear hK K
    refine nm_ 85 ?_
    refine last_ (i := 7) (N := some 86) (bl 10 255) rfl rfl (one_of HT_.out (by kernel_rfl)) (by decide) (fun K hK => ?_)
    refine bb_ (t1 := ⟨5, ⟨#[]⟩, [q, b]⟩) (t2 := q2) H 2 4 (fun h2 w11 H _ => ?_)
    refine hK.out _ _ ?_
    clear hK K
    refine nm_ 86 ?_
    refine ph_ 8 87 (bl 10 511) HT_ ?_
    refine last_ (i := 9) (N := none) (bl 10 1023) rfl rfl (one_of HT_.out (by kernel_rfl)) (by decide) (fun K hK => ?_)
    have F1 := H.f3 1
    refine s3_ H 1 (fun w4 H => ?_)
    refine hK.out _ _ ?_
    clear hK K F1
    refine done_ (done_of HT_.out (by kernel_rfl)) ?_
    clear HT_ HW_ hHeld
    go_wp2
    refine bodyPost_ret (results_cell_row rfl _ _ g2 29 _ (0, 0) _ rfl (H.blk 1 rfl) hu rfl (by kernel_rfl)) rfl ?_
    exact ⟨_, rfl, H.one 2⟩
end Go.Proofs.Ytldgkgdgcfllmaa
end
section
namespace Go.Proofs.Ytldgkgdgcfllmaa
open Go.RowKit Go.Shelf Go.Proofs.Ytldgkgdgcfllmaa.P Go.Proofs.Ytldgkgdgcfllmaa.Pl Go.Proofs.Ytldgkgdgcfllmaa.Rg Go.Proofs.YtldgkgdgcfllmaaW.PrintWords Go.Proofs.YtldgkgdgcfllmaaW.PrintLast Go.Proofs.YtldgkgdgcfllmaaW.PrintMore
set_option linter.unusedVariables false
set_option linter.unusedSimpArgs false
def Tn : Bool × List (List Nat × List Nat) := (true, [([], []), ([0], [0]), ([], []), ([2], [2]), ([], []), ([3, 4], [3, 4]), ([5], [5]), ([], []), ([6, 7], [6, 7]), ([8], [8]), ([1, 9, 8], [1, 9]), ([0, 1, 2, 3, 4, 5, 6, 7, 8, 9, 10], []), ([11, 10, 10, 0, 1, 2, 3, 4, 5, 6, 7, 8, 9, 10], [10, 11])])
def Bn : List Nat := [0, 1, 0, 4, 0, 28, 60, 0, 252, 508, 1023, 2047, 4095]
theorem bitsN : waitsOk Tn.2 Bn = true := by kernel_rfl
theorem tabNs : rtab .any (opsOf Try.f55 14) = Tn := by kernel_rfl
set_option maxHeartbeats 4000000 in
set_option maxRecDepth 100000 in
theorem dsMany (l k0 : ByteArray) (k : Int) (hk : k = 6 ∨ k = 7 ∨ k = 9) (xs : List Tr) (f : Tr → Tr) (hl : xs.length ≤ 1000000) (ih : ∀ a ∈ xs, CT 55 l a (f a)) : CT 55 l ⟨k, k0, xs⟩ ⟨k, ⟨#[]⟩, xs.map f⟩ := by
  intro A c w hC hc
  have HC : Aside0 (Kd.C k29 w A xs.length xs) := ⟨hC⟩
  have HIH := am_ ih
  have HL := am_ hl
  have H := Sl.start w
  have hu := Try.underlying29
  clear hC hc ih hl
  show Calls Try.prog 55 #[.agg #[.int .i64 k, .string k0, .slice A xs.length c], .string l] w _
  rcases hk with rfl | rfl | rfl
  all_goals
    go_enter Try.func55, Try.ntmps55
    go_wp2_with (first | (refine nw_ H 2 #[.int .i64 _, .string k0, .slice A xs.length c] 29 rfl ?_; clear H; intro g1 w1 H) | (refine nw_ H 4 zt 29 rfl ?_; clear H; intro g2 w1 H; have F0 := H.f3 0) | (refine nw_ H 5 zt 29 rfl ?_; clear H F0; intro g3 w1 H; have F2 := H.f3 2) | (refine p3_ H 5 2 rfl ?_; clear H F2; intro w1 H))
    go_loopg [6] xs.length (fun gg v14 w' => ∃ (i : Nat) (v : Value), v14 = .int .i64 (i : Int) ∧ Aside0 (i ≤ xs.length ∧ xs.length ≤ gg + i) ∧ Sl w w' [bx g1 #[.int .i64 _, .string k0, .slice A xs.length c] 29, bx g2 zt 29, bx g3 #[.int .i64 _, .string ⟨#[]⟩, v] 29, tre v ((xs.take i).map f)])
    case atStart => exact ⟨0, _, rfl, ⟨Nat.zero_le _, by omega⟩, sub_nil H⟩
    case round =>
      clear H
      obtain ⟨i, v, rfl, HI, H⟩ := hrel
      have F0 := H.f3 0
      by_cases hi : i < xs.length
      · obtain ⟨g1_, rfl⟩ : ∃ q, gk = q + 1 := ⟨gk - 1, by have := HI.out; omega⟩
        obtain ⟨ad, A2, c2, y, rfl, ⟨-, hy, hm⟩, hx, hl2, hC2⟩ := kid_ HC.out i hi
        have HY := am_ hy
        have HM := am_ (HIH.out y hm)
        have HL2 := am_ hl2
        have HC2 := am_ hC2
        replace hx := And.imp H.old (And.imp H.old H.old) hx
        have p1 : ((0 : Int) ≤ (i : Int)) = True := eq_true (by omega)
        have q1 : ((i : Int) < (xs.length : Int)) = True := eq_true (by omega)
        have HI2 := am_ hi
        clear hy hm hl2 hC2 hi
        have F2 := H.f3 2
        go_wp2
        refine start_ (n := 13) (S := (fun w' => w'.cell? ⟨g3, 2, none⟩ = some v ∧ w'.cell? ⟨g1, 2, none⟩ = some (.slice (some ad) xs.length c) ∧ w'.cell? (ad.add (i * 3)) = some (.int .i64 y.f0) ∧ w'.cell? ⟨(ad.add (i * 3)).block, (ad.add (i * 3)).off + 1, none⟩ = some (.string y.f1) ∧ w'.cell? ⟨(ad.add (i * 3)).block, (ad.add (i * 3)).off + 2, none⟩ = some (.slice A2 y.f2.length c2))) (ds := [10, 12]) (bl 13 0) (by kernel_rfl) rfl rfl (⟨F2.2.2.1, F0.2.2.1, hx⟩) (fun hHeld => ?_); refine with_tabW tabNs bitsN (fun HT_ HW_ => ?_)
        clear F2 F0 hx
        replace H := H.drew
        refine ph_ 0 34 (bl 13 1) HT_ ?_
        refine ph_ 2 36 (bl 13 5) HT_ ?_
        refine ph_ 4 38 (bl 13 21) HT_ ?_
        refine ph_ 7 41 (bl 13 149) HT_ ?_
        refine th_ 1 35 (bl 13 151) HT_ HW_ hHeld ?_
        refine th_ 3 37 (bl 13 159) HT_ HW_ hHeld ?_
        refine ph_ 5 39 (bl 13 191) HT_ ?_
        refine th_ 6 40 (bl 13 255) HT_ HW_ hHeld ?_
        refine on_ 8 (some 42) (bl 13 511) HT_ (fun K hK => ?_)
        refine gO_ Try.func55 #[tv y A2 c2, .string l] ?_
        refine (HM.out A2 c2 _ (Kd.C_below HC2.out H.bel) HL2.out).mono ?_
        rintro e w2 ⟨v2, rfl, H2⟩
        replace H := H.call H2
        refine ⟨_, rfl, ?_⟩
        refine hK.out _ _ ((sb_ H2.bel hHeld)) (fun hHeld => ?_)
        clear hK K
        refine nm_ 42 ?_
        refine on_ 9 (some 43) (bl 13 1023) HT_ (fun K hK => ?_)
        refine value_ (w1 := ?_) (v := ?_) (by rfl) rfl ?_ ?_
        rotate_left 2
        · go_simp
          constructor
          · rfl
          · rfl
        refine hK.out _ _ ((sb_ ba_ hHeld)) (fun hHeld => ?_)
        clear hK K
        refine nm_ 43 ?_
        refine last_ (i := 10) (N := some 44) (bl 13 2047) rfl rfl (one_of HT_.out (by kernel_rfl)) (by decide) (fun K hK => ?_)
        refine ap_ H 3 4 (fun A1 n1 c1 w3 H => ?_) ?_
        rotate_left
        · exact Nat.lt_of_le_of_lt (by rw [List.length_map, List.length_take]; exact Nat.min_le_right _ _) (Nat.lt_of_le_of_lt HL.out (by decide))
        refine hK.out _ _ ?_
        clear hK K
        refine nm_ 44 ?_
        refine ph_ 11 45 (bl 13 4095) HT_ ?_
        refine last_ (i := 12) (N := none) (bl 13 8191) rfl rfl (one_of HT_.out (by kernel_rfl)) (by decide) (fun K hK => ?_)
        have F2 := H.f3 2
        refine s1_ H 2 2 (fun w4 H => ?_)
        refine hK.out _ _ ?_
        clear hK K F2
        refine done_ (done_of HT_.out (by kernel_rfl)) ?_
        clear HT_ HW_ hHeld
        go_wp2
        go_roundg g1_
        case measure => omega
        case rel =>
          have H := H.pre 4
          exact ⟨i + 1, _, by rw [up1 (by have := HL.out; have := HI2.out; omega)], ⟨HI2.out, by have := HI.out; omega⟩, by rw [HY.out, List.map_append]; exact H⟩
      · have e : i = xs.length := by have := HI.out; omega
        subst e
        rw [List.take_length] at H
        have q1 : ((xs.length : Int) < (xs.length : Int)) = False := eq_false (by omega)
        obtain ⟨A3, c3, e3, -, -⟩ := H.tv 3
        rw [List.length_map] at e3
        subst e3
        have F1 := H.f3 1
        have F2 := H.f3 2
        go_wp2_with (refine p3_ H 4 1 rfl ?_; clear H F1 F2; intro w1 H)
        refine bodyPost_ret (results_cell_row rfl _ _ g2 29 _ (0, 0) _ rfl (H.blk 1 rfl) hu rfl (by kernel_rfl)) rfl ?_
        exact ⟨_, rfl, H.one 3⟩
end Go.Proofs.Ytldgkgdgcfllmaa
end
section
namespace Go.Proofs.Ytldgkgdgcfllmaa.Rk
open Go.RowKit Go.Deep Go.ChangeShapes Go.WideShapes Go.Proofs.YtldgkgdgcfllmaaW.PrintWords Go.Proofs.YtldgkgdgcfllmaaW.PrintLast Go.Proofs.YtldgkgdgcfllmaaW.PrintMore
set_option linter.unusedVariables false
set_option linter.unusedSimpArgs false
variable {H : Type} {enc : TypeId × Value → H} {P : Program} {w : World} {base : Nat} {spare : Nat → Bool} {held : Bool} {α : Type}
def Opens (enc : TypeId × Value → H) (P : Program) (w : World) (base : Nat) (spare : Nat → Bool) (held : Bool) (K : Kd α) (G : α → Prop) (t : TypeId) : Prop :=
  ∀ (fuel : Nat) (cs : List Value) (x : DataW H × List MemPlace), DataW.trod enc P w base spare held fuel t cs = some x → ∃ a, K.K w a cs ∧ G a
def wfI (k : IntKind) (n : Int) : Prop := (Lit.int k n).wf = true
def shortS (s : ByteArray) : Prop := s.size ≤ 9223372036854775807
def rowsOf (G : α → Prop) (xs : List α) : Prop := xs.length ≤ 9223372036854775807 ∧ ∀ x ∈ xs, G x
theorem opens_int {k : IntKind} {t : TypeId} (ht : P.underlying t = some (.int k)) : Opens enc P w base spare held (Kd.int k) (wfI k) t := by
  intro fuel cs x h
  obtain ⟨n, rfl, _, h2⟩ := DataW.trod_int ht h
  exact ⟨n, rfl, h2⟩
theorem opens_string {t : TypeId} (ht : P.underlying t = some .string) : Opens enc P w base spare held Kd.string shortS t := by
  intro fuel cs x h
  obtain ⟨s, rfl, _, h2⟩ := DataW.trod_string ht h
  exact ⟨s, rfl, h2⟩
theorem slice_of {K : Kd α} {q : Nat} {v : Value} {xs : List α} (h : (Kd.slice q K).K w xs [v]) : ∃ A c, v = .slice A xs.length c ∧ xs.length ≤ c ∧ K.C w A xs.length xs := by
  obtain ⟨A, c, e, h1, h2⟩ := h
  exact ⟨A, c, by simpa using e, h1, h2⟩
end Go.Proofs.Ytldgkgdgcfllmaa.Rk
end
section
namespace Go.Proofs.Ytldgkgdgcfllmaa.Rk
open Go.RowKit Go.Deep Go.ChangeShapes Go.WideShapes Go.Proofs.Ytldgkgdgcfllmaa.P Go.Proofs.YtldgkgdgcfllmaaW.PrintWords Go.Proofs.YtldgkgdgcfllmaaW.PrintLast Go.Proofs.YtldgkgdgcfllmaaW.PrintMore
set_option linter.unusedVariables false
set_option linter.unusedSimpArgs false
variable {H : Type} {enc : TypeId × Value → H} {w : World} {base : Nat} {spare : Nat → Bool} {held : Bool}
inductive OkT : S24 → Prop
  | mk (x : S24) (h0 : wfI .i64 x.f0) (h1 : shortS x.f1) (h2 : x.f2.length ≤ 9223372036854775807) (h3 : ∀ y ∈ x.f2, OkT y) : OkT x
theorem row_trees {a : Addr} {len cap : Nat} (hl : len ≤ cap) (hm : cap ≤ maxLen) (h : ∀ i, i < len → ∃ y : S24, (∃ cs', w.cells? base (a.add (i * 3)) 3 = some cs' ∧ k24.K w y cs') ∧ OkT y) :
    ∃ xs : List S24, xs.length = len ∧ Kd.C k24 w (some a) xs.length xs ∧ xs.length ≤ 9223372036854775807 ∧ ∀ y ∈ xs, OkT y := by
  haveI : Inhabited S24 := ⟨z24⟩
  obtain ⟨f, hf⟩ := choose_lt (n := len) (p := fun i y => (∃ cs', w.cells? base (a.add (i * 3)) 3 = some cs' ∧ k24.K w y cs') ∧ OkT y) h
  have hlen : ((List.range len).map f).length = len := by simp
  have hbig : len ≤ 9223372036854775807 := by unfold maxLen at hm; omega
  refine ⟨(List.range len).map f, hlen, ⟨rfl, by rw [hlen]; exact hbig, fun _ => ⟨a, rfl, fun j p hj => ?_⟩⟩, by rw [hlen]; exact hbig, fun y hy => ?_⟩
  · have hjl : j < len := by
      have := (List.getElem?_eq_some_iff.1 hj).1
      rwa [hlen] at this
    have hp : f j = p := by
      rw [List.getElem?_map, List.getElem?_range hjl] at hj
      simpa using hj
    subst hp
    obtain ⟨⟨cs', hc, hK⟩, _⟩ := hf j hjl
    obtain ⟨_, hcl, hat⟩ := World.cells?_some hc
    refine ⟨cs', hcl, hK, fun i u hu => ?_⟩
    have hi : i < 3 := by
      have := (List.getElem?_eq_some_iff.1 hu).1
      omega
    have e : k24.sz = 3 := rfl
    rw [e, ← Go.Deep.add_add, hat i hi]
    exact hu
  · obtain ⟨i, hi, rfl⟩ := List.mem_map.mp hy
    exact (hf i (List.mem_range.mp hi)).2
theorem slice_trees {fuel : Nat} (ih : ∀ n, n < fuel → ∀ cs (x : DataW H × List MemPlace), DataW.trod enc Try.prog w base spare held n 24 cs = some x → ∃ y, k24.K w y cs ∧ OkT y)
    {cs : List Value} {x : DataW H × List MemPlace} (h : DataW.trod enc Try.prog w base spare held fuel 22 cs = some x) : ∃ xs : List S24, (Kd.slice 24 k24).K w xs cs ∧ rowsOf OkT xs := by
  rcases DataW.trod_slice Try.underlying22 h with ⟨rfl, _⟩ | ⟨a, len, cap, elems, rest, n, rfl, rfl, _, hb, hl, hm, hlen, hel, _, _⟩
  · exact ⟨[], ⟨none, 0, rfl, Nat.le_refl _, rfl, by simp, fun h0 => absurd h0 (Nat.lt_irrefl _)⟩, by simp, fun x hx => by cases hx⟩
  · have hC : Try.prog.cellsOf 24 = 3 := by kernel_rfl
    obtain ⟨xs, h1, h2, h3, h4⟩ := row_trees (w := w) (base := base) (a := a) hl hm (fun i hi => by
      have := hel i hi
      rw [List.getElem?_eq_getElem (by omega), hC] at this
      obtain ⟨cs', hc, ht⟩ := Option.bind_eq_some_iff.1 this
      obtain ⟨y, hy, hok⟩ := ih n (by omega) cs' _ ht
      exact ⟨y, ⟨cs', hc, hy⟩, hok⟩)
    subst h1
    exact ⟨xs, ⟨some a, cap, rfl, hl, h2⟩, h3, h4⟩
set_option maxRecDepth 100000 in
theorem opens_tree : ∀ (fuel : Nat) (cs : List Value) (x : DataW H × List MemPlace), DataW.trod enc Try.prog w base spare held fuel 24 cs = some x → ∃ y, k24.K w y cs ∧ OkT y := by
  intro fuel
  induction fuel using Nat.strongRecOn with
  | _ fuel ih =>
  intro cs x h
  obtain ⟨xs, n, rfl, _, hcl, hlen, hg⟩ := DataW.trod_struct Try.underlying24 h
  have hC : Try.prog.cellsOf 24 = 3 := by kernel_rfl
  have c0 : Try.prog.cellsOf 3 = 1 := by kernel_rfl
  have c1 : Try.prog.cellsOf 9 = 1 := by kernel_rfl
  have c2 : Try.prog.cellsOf 22 = 1 := by kernel_rfl
  rw [hC] at hcl
  match cs, hcl, xs, hlen with
  | [u0, u1, u2], _, [y0, y1, y2], _ =>
    have g0 : DataW.trod enc Try.prog w base spare held n 3 (([u0, u1, u2].drop 0).take (Try.prog.cellsOf 3)) = some y0 := hg 0 _ rfl
    have g1 : DataW.trod enc Try.prog w base spare held n 9 (([u0, u1, u2].drop 1).take (Try.prog.cellsOf 9)) = some y1 := hg 1 _ rfl
    have g2 : DataW.trod enc Try.prog w base spare held n 22 (([u0, u1, u2].drop 2).take (Try.prog.cellsOf 22)) = some y2 := hg 2 _ rfl
    rw [c0] at g0
    rw [c1] at g1
    rw [c2] at g2
    obtain ⟨a, e0, _, w0⟩ := DataW.trod_int Try.underlying3 g0
    obtain ⟨s, e1, _, w1⟩ := DataW.trod_string Try.underlying9 g1
    obtain ⟨l, hK, hl, hok⟩ := slice_trees (fuel := n) (fun m hm => ih m (by omega)) g2
    obtain ⟨A, c, e2, hlc, hC2⟩ := hK
    have q0 : u0 = .int .i64 a := (List.cons.inj e0).1
    have q1 : u1 = .string s := (List.cons.inj e1).1
    have q2 : u2 = .slice A l.length c := (List.cons.inj e2).1
    subst q0
    subst q1
    subst q2
    exact ⟨⟨a, s, l⟩, k24_mk w ⟨a, s, l⟩ hlc hC2, OkT.mk _ w0 w1 hl hok⟩
theorem opens_trees : Opens enc Try.prog w base spare held (Kd.slice 24 k24) (rowsOf OkT) 22 :=
  fun fuel cs x h => slice_trees (fun n _ => opens_tree n) h
end Go.Proofs.Ytldgkgdgcfllmaa.Rk
end
section
namespace Go.Proofs.Ytldgkgdgcfllmaa.P
open Go.RowKit Go.Proofs.YtldgkgdgcfllmaaW.PrintWords Go.Proofs.YtldgkgdgcfllmaaW.PrintLast Go.Proofs.YtldgkgdgcfllmaaW.PrintMore
attribute [local go_sem] max2_int min2_int max_two min_two max_three min_three max_four min_four
set_option linter.unusedVariables false
set_option linter.unusedSimpArgs false
mutual
def laws_szRegexS.l0 : Nat → List (S24) → Int → Int → Option (Int)
  | 0, _, _, _ => none
  | k + 1, x0, x1, x5 => if x5 < (x0.length : Int) then (if 0 ≤ x5 then ((laws_szRegex.f k ((rd_T24 x0 x5).f0) ((rd_T24 x0 x5).f1) ((rd_T24 x0 x5).f2) x1).bind fun ai => (if ai < 0 then (some (-1)) else (laws_szRegexS.l0 k x0 ai (wrap64 (x5 + 1))))) else (none)) else (some x1)
def laws_szRegexS.f : Nat → List (S24) → Int → Option (Int)
  | 0, _, _ => none
  | k + 1, l0, a1 => if (wrap64 (a1 - (l0.length : Int))) < 0 then (some (-1)) else (laws_szRegexS.l0 k l0 (wrap64 (a1 - (l0.length : Int))) 0)
def laws_szRegex.f : Nat → Int → ByteArray → List (S24) → Int → Option (Int)
  | 0, _, _, _, _ => none
  | k + 1, a0_0, a0_1, l0_2, a1 => if (wrap64 (a1 - (a0_1.size : Int))) < 0 then (some (-1)) else ((laws_szRegexS.f k l0_2 (wrap64 (a1 - (a0_1.size : Int)))).bind fun ad => (if ad < 0 then (some (-1)) else (some ad)))
end
theorem laws_szRegexS_2.mono_l : ∀ k, (∀ y0 y1, LeO (laws_szRegexS.f k y0 y1) (laws_szRegexS.f (k + 1) y0 y1)) ∧ (∀ y0 y1 y2, LeO (laws_szRegexS.l0 k y0 y1 y2) (laws_szRegexS.l0 (k + 1) y0 y1 y2)) ∧ (∀ y0 y1 y2 y3, LeO (laws_szRegex.f k y0 y1 y2 y3) (laws_szRegex.f (k + 1) y0 y1 y2 y3))
 | 0 => ⟨fun _ _ r h => by simp [laws_szRegexS.f] at h, fun _ _ _ r h => by simp [laws_szRegexS.l0] at h, fun _ _ _ _ r h => by simp [laws_szRegex.f] at h⟩
 | k + 1 => by
  obtain ⟨ih0, ih1, ih2⟩ := laws_szRegexS_2.mono_l k
  refine ⟨?_, ?_, ?_⟩
  ·intro y0 y1
   unfold laws_szRegexS.f
   repeat' first
   | (with_reducible exact ih0 _ _)
   | (with_reducible exact ih1 _ _ _)
   | (with_reducible exact ih2 _ _ _ _)
   | (with_reducible exact LeO.refl _)
   | (with_reducible exact LeO.none _)
   | (with_reducible refine LeO.ite ?_ ?_)
   | (with_reducible refine LeO.bind ?_ (fun _ => ?_))
   | exact ih0 _ _
   | exact ih1 _ _ _
   | exact ih2 _ _ _ _
   | exact LeO.none _
   | refine LeO.ite ?_ ?_
   | refine LeO.bind ?_ (fun _ => ?_)
  ·intro y0 y1 y2
   unfold laws_szRegexS.l0
   repeat' first
   | (with_reducible exact ih0 _ _)
   | (with_reducible exact ih1 _ _ _)
   | (with_reducible exact ih2 _ _ _ _)
   | (with_reducible exact LeO.refl _)
   | (with_reducible exact LeO.none _)
   | (with_reducible refine LeO.ite ?_ ?_)
   | (with_reducible refine LeO.bind ?_ (fun _ => ?_))
   | exact ih0 _ _
   | exact ih1 _ _ _
   | exact ih2 _ _ _ _
   | exact LeO.none _
   | refine LeO.ite ?_ ?_
   | refine LeO.bind ?_ (fun _ => ?_)
  ·intro y0 y1 y2 y3
   unfold laws_szRegex.f
   repeat' first
   | (with_reducible exact ih0 _ _)
   | (with_reducible exact ih1 _ _ _)
   | (with_reducible exact ih2 _ _ _ _)
   | (with_reducible exact LeO.refl _)
   | (with_reducible exact LeO.none _)
   | (with_reducible refine LeO.ite ?_ ?_)
   | (with_reducible refine LeO.bind ?_ (fun _ => ?_))
   | exact ih0 _ _
   | exact ih1 _ _ _
   | exact ih2 _ _ _ _
   | exact LeO.none _
   | refine LeO.ite ?_ ?_
   | refine LeO.bind ?_ (fun _ => ?_)
theorem laws_szRegexS.mono : ∀ a0 a1 k, LeO (laws_szRegexS.f k a0 a1) (laws_szRegexS.f (k + 1) a0 a1) := by
 intro a0 a1 k
 obtain ⟨ih0, ih1, ih2⟩ := laws_szRegexS_2.mono_l k
 exact ih0 a0 a1
theorem laws_szRegex.mono : ∀ a0 a1 a2 a3 k, LeO (laws_szRegex.f k a0 a1 a2 a3) (laws_szRegex.f (k + 1) a0 a1 a2 a3) := by
 intro a0 a1 a2 a3 k
 obtain ⟨ih0, ih1, ih2⟩ := laws_szRegexS_2.mono_l k
 exact ih2 a0 a1 a2 a3
abbrev laws_szRegexS.Says (k : Nat) : Prop := ∀ (A0 : Option Addr) (c0 : Nat) (l0 : List (S24)) (a1 : Int) (r : Int) (w : World) (hr0 : Kd.C k24 w A0 l0.length l0) (hc0 : l0.length ≤ c0) (h : laws_szRegexS.f k l0 a1 = some r),
    Calls Try.prog 37 #[.slice A0 l0.length c0, .int .i64 a1] w fun e w' => e = .returned (.int .i64 r) ∧ Below w.heap.size w w'
abbrev laws_szRegex.Says (k : Nat) : Prop := ∀ (a0_0 : Int) (a0_1 : ByteArray) (A0_2 : Option Addr) (c0_2 : Nat) (l0_2 : List (S24)) (a1 : Int) (r : Int) (w : World) (hr0_2 : Kd.C k24 w A0_2 l0_2.length l0_2) (hc0_2 : l0_2.length ≤ c0_2) (h : laws_szRegex.f k a0_0 a0_1 l0_2 a1 = some r),
    Calls Try.prog 12 #[.agg #[.int .i64 a0_0, .string a0_1, .slice A0_2 l0_2.length c0_2], .int .i64 a1] w fun e w' => e = .returned (.int .i64 r) ∧ Below w.heap.size w w'
theorem zp1_0_ {p q : Prop} (h : p) (c : p → q := by intro h_; repeat (first | (with_reducible first | exact h_ | apply below_alloc | apply pw_below_drewN | apply below_drew1) | exact h_)) : q := c h
set_option maxHeartbeats 8000000 in
set_option maxRecDepth 100000 in
theorem laws_szRegexS.step (k : Nat) (ih : ∀ m_, m_ < k → laws_szRegexS.Says m_) (ihM : ∀ m_, m_ < k → laws_szRegex.Says m_) : laws_szRegexS.Says k := by
 intro A0 c0 l0 a1 r w hr0 hc0 h
 cases k with
 | zero => exact absurd h (by simp [laws_szRegexS.f])
 | succ k =>
 simp only [laws_szRegexS.f] at h
 have hu24 := Try.underlying24
 have HR0 := am_ hr0
 have HC0 := am_ hc0
 clear hr0 hc0
 have HB := am_ (Below.refl w.heap.size w)
 have H : (if (wrap64 (a1 - (l0.length : Int))) < 0 then (some (-1)) else (laws_szRegexS.l0 k l0 (wrap64 (a1 - (l0.length : Int))) 0)) = some r := h
 clear h
 by_cases c3 : (wrap64 (a1 - (l0.length : Int))) < 0
 ·rw [if_pos c3] at H
  have c3b0 : decide ((wrap64 (a1 - (l0.length : Int))) < 0) = true := decide_eq_true c3
  clear c3
  obtain rfl := Option.some.inj H
  simp only [Option.some.injEq, Prod.mk.injEq] at H
  obtain ⟨rfl⟩ := H
  go_enter Try.func37, Try.ntmps37
  go_wp2
  go_ret
  exact ⟨by first | rfl | (simp [errW_none, errW_some] <;> rfl) | (simp [*, errW_none, errW_some] <;> rfl), by exact zp1_0_ HB.out⟩
 ·rw [if_neg c3] at H
  have c3b0 : decide ((wrap64 (a1 - (l0.length : Int))) < 0) = false := decide_eq_false c3
  clear c3
  have H' := am_ H
  clear H
  go_enter Try.func37, Try.ntmps37
  go_wp2
  go_loopg [1, 5] k (fun kq v1 v5 w' => ∃ (ak : Int) (ab : Int), v1 = .int .i64 ak ∧ v5 = .int .i64 ab ∧ Aside0 (laws_szRegexS.l0 kq l0 ak ab = some r) ∧ Aside0 (kq ≤ k) ∧ Aside0 (Below w.heap.size w w'))
  case atStart => exact ⟨(wrap64 (a1 - (l0.length : Int))), (0), (by first | rfl | (simp; done) | (simp [*]; done)), (by first | rfl | (simp; done) | (simp [*]; done)), H', ⟨Nat.le_refl _⟩, ⟨by exact zp1_0_ HB.out⟩⟩
  case round =>
   clear H'
   try clear p2
   try clear c3
   try clear c3b0
   obtain ⟨ak, ab, rfl, rfl, HA, HK1, HB⟩ := hrel
   cases gk with
   | zero => exact absurd HA.out (by simp [laws_szRegexS.l0])
   | succ k1 =>
    have H := HA.out
    clear HA
    simp only [laws_szRegexS.l0] at H
    by_cases c4 : ab < (l0.length : Int)
    ·rw [if_pos c4] at H
     have c4b0 : decide (ab < (l0.length : Int)) = true := decide_eq_true c4
     clear c4
     by_cases c5 : 0 ≤ ab
     ·rw [if_pos c5] at H
      have c5b0 : decide (0 ≤ ab) = true := decide_eq_true c5
      clear c5
      replace H := Option.bind_eq_some_iff.mp H
      obtain ⟨ai, A60, H⟩ := H
      have A6 := am_ A60
      clear A60
      by_cases c7 : ai < 0
      ·rw [if_pos c7] at H
       have c7b0 : decide (ai < 0) = true := decide_eq_true c7
       clear c7
       obtain rfl := Option.some.inj H
       simp only [Option.some.injEq, Prod.mk.injEq] at H
       obtain ⟨rfl⟩ := H
       have p105 : 0 ≤ (ab : Int) := of_decide_eq_true ah_
       have q105 : ab < (l0.length : Int) := of_decide_eq_true ah_
       obtain ⟨aq, A105_2, c105_2, e105, ae, af, ag, hl105_2, hi105_2⟩ := at_T24 HR0.out ab p105 q105
       cases e105
       replace ae := (HB.out.cell (World.block_lt_of_cell? w _ ae)).trans ae
       replace af := (HB.out.cell (World.block_lt_of_cell? w _ af)).trans af
       replace ag := (HB.out.cell (World.block_lt_of_cell? w _ ag)).trans ag
       have al := am_ hi105_2
       have am := am_ hl105_2
       clear hi105_2 hl105_2
       replace p105 := eq_true p105
       replace q105 := eq_true q105
       go_wp2_with (first | ((with_reducible refine gate_callee (f := 12) rfl ?_); refine gL_ (some 23) Try.func12 #[.agg #[.int .i64 ((rd_T24 l0 ab).f0), .string ((rd_T24 l0 ab).f1), .slice A105_2 ((rd_T24 l0 ab).f2).length c105_2], .int .i64 ak] ?_; (with_reducible refine (ihM k1 (by have := HK1.out; omega) ((rd_T24 l0 ab).f0) ((rd_T24 l0 ab).f1) _ _ ((rd_T24 l0 ab).f2) ak ai _ ?side1 ?side2 A6.out).mono ?_); (case side1 => exact rc_ (Kd.C_below al.out HB.out)); (case side2 => exact am.out); rintro e w8 ⟨rfl, hb⟩; refine ⟨_, rfl, ?_⟩; replace HB := am_ (below_step (b0_ HB.out) hb); (try clear hb); (try clear hb2); (try clear hk); (try clear hi)))
       go_ret
       exact ⟨by first | rfl | (simp [errW_none, errW_some] <;> rfl) | (simp [*, errW_none, errW_some] <;> rfl), by exact zp1_0_ HB.out⟩
      ·rw [if_neg c7] at H
       have c7b0 : decide (ai < 0) = false := decide_eq_false c7
       clear c7
       have H' := am_ H
       clear H
       have p105 : 0 ≤ (ab : Int) := of_decide_eq_true ah_
       have q105 : ab < (l0.length : Int) := of_decide_eq_true ah_
       obtain ⟨aq, A105_2, c105_2, e105, ae, af, ag, hl105_2, hi105_2⟩ := at_T24 HR0.out ab p105 q105
       cases e105
       replace ae := (HB.out.cell (World.block_lt_of_cell? w _ ae)).trans ae
       replace af := (HB.out.cell (World.block_lt_of_cell? w _ af)).trans af
       replace ag := (HB.out.cell (World.block_lt_of_cell? w _ ag)).trans ag
       have al := am_ hi105_2
       have am := am_ hl105_2
       clear hi105_2 hl105_2
       replace p105 := eq_true p105
       replace q105 := eq_true q105
       go_wp2_with (first | ((with_reducible refine gate_callee (f := 12) rfl ?_); refine gL_ (some 23) Try.func12 #[.agg #[.int .i64 ((rd_T24 l0 ab).f0), .string ((rd_T24 l0 ab).f1), .slice A105_2 ((rd_T24 l0 ab).f2).length c105_2], .int .i64 ak] ?_; (with_reducible refine (ihM k1 (by have := HK1.out; omega) ((rd_T24 l0 ab).f0) ((rd_T24 l0 ab).f1) _ _ ((rd_T24 l0 ab).f2) ak ai _ ?side1 ?side2 A6.out).mono ?_); (case side1 => exact rc_ (Kd.C_below al.out HB.out)); (case side2 => exact am.out); rintro e w9 ⟨rfl, hb⟩; refine ⟨_, rfl, ?_⟩; replace HB := am_ (below_step (b0_ HB.out) hb); (try clear hb); (try clear hb2); (try clear hk); (try clear hi)))
       go_roundg k1
       case measure => have := HK1.out; omega
       case rel => exact ⟨(ai), (wrap64 (ab + 1)), (by first | rfl | (simp; done) | (simp [*]; done)), (by first | rfl | (simp; done) | (simp [*]; done)), H', ⟨by have := HK1.out; omega⟩, ⟨by exact zp1_0_ HB.out⟩⟩
     ·rw [if_neg c5] at H
      exact absurd H (by simp)
    ·rw [if_neg c4] at H
     have c4b0 : decide (ab < (l0.length : Int)) = false := decide_eq_false c4
     clear c4
     obtain rfl := Option.some.inj H
     simp only [Option.some.injEq, Prod.mk.injEq] at H
     obtain ⟨rfl⟩ := H
     go_wp2
     go_ret
     exact ⟨by first | rfl | (simp [errW_none, errW_some] <;> rfl) | (simp [*, errW_none, errW_some] <;> rfl), by exact zp1_0_ HB.out⟩
set_option maxHeartbeats 8000000 in
set_option maxRecDepth 100000 in
theorem laws_szRegex.step (k : Nat) (ih : ∀ m_, m_ < k → laws_szRegex.Says m_) (ihM : ∀ m_, m_ < k → laws_szRegexS.Says m_) : laws_szRegex.Says k := by
 intro a0_0 a0_1 A0_2 c0_2 l0_2 a1 r w hr0_2 hc0_2 h
 cases k with
 | zero => exact absurd h (by simp [laws_szRegex.f])
 | succ k =>
 simp only [laws_szRegex.f] at h
 have hu24 := Try.underlying24
 have an := am_ hr0_2
 have ao := am_ hc0_2
 clear hr0_2 hc0_2
 have HB := am_ (Below.refl w.heap.size w)
 have H : (if (wrap64 (a1 - (a0_1.size : Int))) < 0 then (some (-1)) else ((laws_szRegexS.f k l0_2 (wrap64 (a1 - (a0_1.size : Int)))).bind fun ad => (if ad < 0 then (some (-1)) else (some ad)))) = some r := h
 clear h
 by_cases c3 : (wrap64 (a1 - (a0_1.size : Int))) < 0
 ·rw [if_pos c3] at H
  have c3b0 : decide ((wrap64 (a1 - (a0_1.size : Int))) < 0) = true := decide_eq_true c3
  clear c3
  obtain rfl := Option.some.inj H
  simp only [Option.some.injEq, Prod.mk.injEq] at H
  obtain ⟨rfl⟩ := H
  go_enter Try.func12, Try.ntmps12
  go_wp2_with (first | ((with_reducible refine gate_dst (N := 2) rfl ?_); refine box_event ?hg (N := 2) ?hd (cs := #[.int .i64 a0_0, .string a0_1, .slice A0_2 l0_2.length c0_2]) (t := 24) ?hr ?_; (case hd => rfl); (case hg => rfl); (case hr => first | (go_simp; done) | (go_simp; rfl)); intro ah hg w4 hbox hb; replace aa := am_ (hbox); replace ap := am_ ((by rw [hg]; exact (below_size (b0_ HB.out)) : w.heap.size ≤ ah)); replace aj := am_ ((by rw [hg]; exact (below_size (b0_ HB.out)) : w.heap.size ≤ ah)); replace HB := am_ (below_step (b0_ HB.out) hb); clear hb hbox hg; have az := ck_ (v := (.int .i64 a0_0)) aa 0 rfl; have aA := ck_ (v := (.string a0_1)) aa 1 rfl; have aB := ck_ (v := (.slice A0_2 l0_2.length c0_2)) aa 2 rfl; have aC := blk_frozen aa.out 0; have aD := blk_frozen aa.out 1; have aE := blk_frozen aa.out 2))
  go_ret
  exact ⟨by first | rfl | (simp [errW_none, errW_some] <;> rfl) | (simp [*, errW_none, errW_some] <;> rfl), by repeat (first | (with_reducible first | exact HB.out | apply below_alloc | apply pw_below_drewN | apply below_drew1 | refine below_set ?_ aj.out) | exact HB.out)⟩
 ·rw [if_neg c3] at H
  have c3b0 : decide ((wrap64 (a1 - (a0_1.size : Int))) < 0) = false := decide_eq_false c3
  clear c3
  replace H := Option.bind_eq_some_iff.mp H
  obtain ⟨ad, A60, H⟩ := H
  replace H : (if ad < 0 then (some (-1)) else (some ad)) = some r := H
  have A6 := am_ A60
  clear A60
  by_cases c7 : ad < 0
  ·rw [if_pos c7] at H
   have c7b0 : decide (ad < 0) = true := decide_eq_true c7
   clear c7
   obtain rfl := Option.some.inj H
   simp only [Option.some.injEq, Prod.mk.injEq] at H
   obtain ⟨rfl⟩ := H
   go_enter Try.func12, Try.ntmps12
   go_wp2_with (first | ((with_reducible refine gate_dst (N := 2) rfl ?_); refine box_event ?hg (N := 2) ?hd (cs := #[.int .i64 a0_0, .string a0_1, .slice A0_2 l0_2.length c0_2]) (t := 24) ?hr ?_; (case hd => rfl); (case hg => rfl); (case hr => first | (go_simp; done) | (go_simp; rfl)); intro ah hg w8 hbox hb; replace aa := am_ (hbox); replace ap := am_ ((by rw [hg]; exact (below_size (b0_ HB.out)) : w.heap.size ≤ ah)); replace aj := am_ ((by rw [hg]; exact (below_size (b0_ HB.out)) : w.heap.size ≤ ah)); replace HB := am_ (below_step (b0_ HB.out) hb); clear hb hbox hg; have aF := ck_ (v := (.int .i64 a0_0)) aa 0 rfl; have aG := ck_ (v := (.string a0_1)) aa 1 rfl; have aH := ck_ (v := (.slice A0_2 l0_2.length c0_2)) aa 2 rfl; have aI := blk_frozen aa.out 0; have aJ := blk_frozen aa.out 1; have aK := blk_frozen aa.out 2) | ((with_reducible refine gate_callee (f := 37) rfl ?_); refine gL_ (some 15) Try.func37 #[.slice A0_2 l0_2.length c0_2, .int .i64 (wrap64 (a1 - (a0_1.size : Int)))] ?_; (with_reducible refine (ihM k (by omega) _ _ l0_2 (wrap64 (a1 - (a0_1.size : Int))) ad _ ?side1 ?side2 A6.out).mono ?_); (case side1 => exact rc_ (Kd.C_below an.out HB.out)); (case side2 => exact ao.out); rintro e w10 ⟨rfl, hb⟩; refine ⟨_, rfl, ?_⟩; have n0_ := am_ (blk_below (rb_ aa.out) hb); have n1_ := am_ (below_step (b1_ HB.out aj.out) hb); clear aa; clear HB; have aa := n0_; have HB := n1_; clear n0_ n1_; (try clear hb); (try clear hb2); (try clear hk); (try clear hi)))
   go_ret
   exact ⟨by first | rfl | (simp [errW_none, errW_some] <;> rfl) | (simp [*, errW_none, errW_some] <;> rfl), by repeat (first | (with_reducible first | exact HB.out | apply below_alloc | apply pw_below_drewN | apply below_drew1 | refine below_set ?_ aj.out) | exact HB.out)⟩
  ·rw [if_neg c7] at H
   have c7b0 : decide (ad < 0) = false := decide_eq_false c7
   clear c7
   obtain rfl := Option.some.inj H
   simp only [Option.some.injEq, Prod.mk.injEq] at H
   obtain ⟨rfl⟩ := H
   go_enter Try.func12, Try.ntmps12
   go_wp2_with (first | ((with_reducible refine gate_dst (N := 2) rfl ?_); refine box_event ?hg (N := 2) ?hd (cs := #[.int .i64 a0_0, .string a0_1, .slice A0_2 l0_2.length c0_2]) (t := 24) ?hr ?_; (case hd => rfl); (case hg => rfl); (case hr => first | (go_simp; done) | (go_simp; rfl)); intro ah hg w11 hbox hb; replace aa := am_ (hbox); replace ap := am_ ((by rw [hg]; exact (below_size (b0_ HB.out)) : w.heap.size ≤ ah)); replace aj := am_ ((by rw [hg]; exact (below_size (b0_ HB.out)) : w.heap.size ≤ ah)); replace HB := am_ (below_step (b0_ HB.out) hb); clear hb hbox hg; have ar := ck_ (v := (.int .i64 a0_0)) aa 0 rfl; have au := ck_ (v := (.string a0_1)) aa 1 rfl; have av := ck_ (v := (.slice A0_2 l0_2.length c0_2)) aa 2 rfl; have aw := blk_frozen aa.out 0; have ax := blk_frozen aa.out 1; have ay := blk_frozen aa.out 2) | ((with_reducible refine gate_callee (f := 37) rfl ?_); refine gL_ (some 15) Try.func37 #[.slice A0_2 l0_2.length c0_2, .int .i64 (wrap64 (a1 - (a0_1.size : Int)))] ?_; (with_reducible refine (ihM k (by omega) _ _ l0_2 (wrap64 (a1 - (a0_1.size : Int))) ad _ ?side1 ?side2 A6.out).mono ?_); (case side1 => exact rc_ (Kd.C_below an.out HB.out)); (case side2 => exact ao.out); rintro e w13 ⟨rfl, hb⟩; refine ⟨_, rfl, ?_⟩; have n0_ := am_ (blk_below (rb_ aa.out) hb); have n1_ := am_ (below_step (b1_ HB.out aj.out) hb); clear aa; clear HB; have aa := n0_; have HB := n1_; clear n0_ n1_; (try clear hb); (try clear hb2); (try clear hk); (try clear hi)))
   go_ret
   exact ⟨by first | rfl | (simp [errW_none, errW_some] <;> rfl) | (simp [*, errW_none, errW_some] <;> rfl), by repeat (first | (with_reducible first | exact HB.out | apply below_alloc | apply pw_below_drewN | apply below_drew1 | refine below_set ?_ aj.out) | exact HB.out)⟩
theorem laws_szRegexS_2.both (k : Nat) : laws_szRegexS.Says k ∧ laws_szRegex.Says k := by
 induction k using Nat.strongRecOn with
 | _ k ih => exact ⟨laws_szRegexS.step k (fun m_ h_ => (ih m_ h_).1) (fun m_ h_ => (ih m_ h_).2), laws_szRegex.step k (fun m_ h_ => (ih m_ h_).2) (fun m_ h_ => (ih m_ h_).1)⟩
theorem laws_szRegexS.calls (k : Nat) : ∀ (A0 : Option Addr) (c0 : Nat) (l0 : List (S24)) (a1 : Int) (r : Int) (w : World) (hr0 : Kd.C k24 w A0 l0.length l0) (hc0 : l0.length ≤ c0) (h : laws_szRegexS.f k l0 a1 = some r),
  Calls Try.prog 37 #[.slice A0 l0.length c0, .int .i64 a1] w fun e w' => e = .returned (.int .i64 r) ∧ Below w.heap.size w w' := (laws_szRegexS_2.both k).1
theorem laws_szRegex.calls (k : Nat) : ∀ (a0_0 : Int) (a0_1 : ByteArray) (A0_2 : Option Addr) (c0_2 : Nat) (l0_2 : List (S24)) (a1 : Int) (r : Int) (w : World) (hr0_2 : Kd.C k24 w A0_2 l0_2.length l0_2) (hc0_2 : l0_2.length ≤ c0_2) (h : laws_szRegex.f k a0_0 a0_1 l0_2 a1 = some r),
  Calls Try.prog 12 #[.agg #[.int .i64 a0_0, .string a0_1, .slice A0_2 l0_2.length c0_2], .int .i64 a1] w fun e w' => e = .returned (.int .i64 r) ∧ Below w.heap.size w w' := (laws_szRegexS_2.both k).2
end Go.Proofs.Ytldgkgdgcfllmaa.P
end
section
namespace Go.Proofs.Ytldgkgdgcfllmaa.P
open Go.RowKit Go.Proofs.YtldgkgdgcfllmaaW.PrintWords Go.Proofs.YtldgkgdgcfllmaaW.PrintLast Go.Proofs.YtldgkgdgcfllmaaW.PrintMore
attribute [local go_sem] max2_int min2_int max_two min_two max_three min_three max_four min_four
set_option linter.unusedVariables false
set_option linter.unusedSimpArgs false
end Go.Proofs.Ytldgkgdgcfllmaa.P
end
