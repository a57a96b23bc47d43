/- Texts of the proof of FnDerivatives, put together. No condition. -/
import Derived.Test.YtldgkgdgcfllmaaQFnDerivatives3
import Derived.Test.YtldgkgdgcfllmaaQFnDerivatives11
import Derived.Test.YtldgkgdgcfllmaaQFnDerivatives10
import Derived.Test.YtldgkgdgcfllmaaQFnDerivatives8
import Derived.Deep.Slices
import Derived.Lib.SmallJoins
import Derived.Test.YtldgkgdgcfllmaaQFnDerivatives2
import Derived.Test.YtldgkgdgcfllmaaQFnDerivatives5
import Derived.Test.YtldgkgdgcfllmaaQFnDerivatives4
import Derived.Test.YtldgkgdgcfllmaaQFnDerivatives9
section
namespace Go.Proofs.Ytldgkgdgcfllmaa
open Go.RowKit Go.Shelf Go.Proofs.Ytldgkgdgcfllmaa.P Go.Proofs.Ytldgkgdgcfllmaa.Pl Go.Proofs.Ytldgkgdgcfllmaa.Rg Go.Proofs.YtldgkgdgcfllmaaW.PrintWords Go.Proofs.YtldgkgdgcfllmaaW.PrintLast Go.Proofs.YtldgkgdgcfllmaaW.PrintMore
set_option linter.unusedVariables false
set_option linter.unusedSimpArgs false
def Tc : Bool × List (List Nat × List Nat) := (true, [([], []), ([0], [0]), ([1], [1]), ([2], [2]), ([], []), ([3, 4], [3, 4]), ([], []), ([6], [6]), ([7], [7]), ([8], [8]), ([9, 5], [9]), ([5, 10], [5, 10]), ([11], [11]), ([], []), ([13, 12, 10, 0, 1, 2, 3, 4, 5, 6, 7, 8, 9, 10, 11, 12, 13], [12, 13])])
def Bc : List Nat := [0, 1, 3, 7, 0, 31, 0, 64, 192, 448, 1023, 2047, 4095, 0, 16383]
theorem bitsC : waitsOk Tc.2 Bc = true := by kernel_rfl
theorem tabCi : rtab .any (opsOf Try.f56 21) = Tc := by kernel_rfl
def Td : Bool × List (List Nat × List Nat) := (true, [([], []), ([], []), ([1], [1]), ([2], [2]), ([3], [3]), ([], []), ([4, 5], [4, 5]), ([0, 6], [0, 6]), ([7], [7]), ([8, 6, 0, 1, 2, 3, 4, 5, 6, 7, 8], [8])])
def Bd : List Nat := [0, 0, 2, 6, 14, 0, 62, 127, 255, 511]
theorem bitsD : waitsOk Td.2 Bd = true := by kernel_rfl
theorem tabDi : rtab .any (opsOf Try.f56 23) = Td := by kernel_rfl
set_option maxHeartbeats 8000000 in
set_option maxRecDepth 100000 in
theorem deCat (n : Nat) (l k0 : ByteArray) (a b q q2 : Tr) (x : Rx) (hx : Ax a x) (hs : sz x ≤ 100) (hT : Tall n b) (ih : CT 56 l a q) (ih2 : CT 56 l b q2) :
    CT 56 l ⟨5, k0, [a, b]⟩ (if lan x [] = true then ⟨6, ⟨#[]⟩, [⟨5, ⟨#[]⟩, [q, b]⟩, q2]⟩ else ⟨5, ⟨#[]⟩, [q, b]⟩) := by
  intro A c w hC hc
  obtain ⟨ad, A2, c2, y, rfl, ⟨rfl, -, -⟩, hxa, hl2, hC2⟩ := kid_ hC 0 (by simp)
  obtain ⟨_, A3, c3, y, e, ⟨rfl, -, -⟩, hxb, hl3, hC3⟩ := kid_ hC 1 (by simp)
  obtain rfl := Option.some.inj e
  rw [Nat.zero_mul, Addr.add_zero'] at hxa
  rw [Nat.one_mul] at hxb
  change w.cell? ad = some (.int .i64 a.f0) ∧ w.cell? ⟨ad.block, ad.off + 1, none⟩ = some (.string a.f1) ∧ w.cell? ⟨ad.block, ad.off + 2, none⟩ = some (.slice A2 a.f2.length c2) at hxa
  change w.cell? ⟨ad.block, ad.off + 3, none⟩ = some (.int .i64 b.f0) ∧ w.cell? ⟨ad.block, ad.off + 3 + 1, none⟩ = some (.string b.f1) ∧ w.cell? ⟨ad.block, ad.off + 3 + 2, none⟩ = some (.slice A3 b.f2.length c3) at hxb
  have HX := am_ (And.intro hxa.1 (And.intro hxa.2.1 (And.intro hxa.2.2 hxb)))
  have HC2 := am_ hC2
  have HL2 := am_ hl2
  have HC3 := am_ hC3
  have HL3 := am_ hl3
  have HT := am_ hT
  have H := Sl.start w
  have hu := Try.underlying29
  clear hxa hxb hC hc hC2 hl2 hC3 hl3 hT
  obtain ⟨res, hres⟩ : ∃ r, r = lan x [] := ⟨_, rfl⟩
  have HM : Aside0 (∀ w', Below w.heap.size w w' → Calls Try.prog 54 #[tv a A2 c2, .string ⟨#[]⟩] w' fun e w2 => e = .returned (.bool res) ∧ Below w'.heap.size w' w2) := ⟨fun w' hb => by
    have := matchesCalls A2 c2 a x ⟨#[]⟩ w' hx hs (by decide) (Kd.C_below HC2.out hb) HL2.out
    rw [show bytesOf ⟨#[]⟩ = [] from rfl, ← hres] at this
    exact this⟩
  rw [← hres]
  obtain ⟨qq, hqq⟩ : ∃ r : Tr, r = if res = true then ⟨6, ⟨#[]⟩, [⟨5, ⟨#[]⟩, [q, b]⟩, q2]⟩ else ⟨5, ⟨#[]⟩, [q, b]⟩ := ⟨_, rfl⟩
  rw [← hqq]
  have HQ := am_ hqq
  clear hx hs hres hqq
  show Calls Try.prog 56 #[.agg #[.int .i64 5, .string k0, .slice (some ad) 2 c], .string l] w _
  go_enter Try.func56, Try.ntmps56
  go_wp2_with (first | (refine nw_ H 2 #[.int .i64 5, .string k0, .slice (some ad) 2 c] 29 rfl ?_; intro g1 w1 H) | (refine nw_ H 4 zt 29 rfl ?_; intro g2 w1 H; have F0 := H.f3 0))
  have hx := HX.out
  replace hx := And.imp H.old (And.imp H.old (And.imp H.old (And.imp H.old (And.imp H.old H.old)))) hx
  refine start_ (n := 15) (S := (fun w' => w'.cell? ⟨g1, 2, none⟩ = some (.slice (some ad) 2 c) ∧ w'.cell? ad = some (.int .i64 a.f0) ∧ w'.cell? ⟨ad.block, ad.off + 1, none⟩ = some (.string a.f1) ∧ w'.cell? ⟨ad.block, ad.off + 2, none⟩ = some (.slice A2 a.f2.length c2) ∧ w'.cell? ⟨ad.block, ad.off + 3, none⟩ = some (.int .i64 b.f0) ∧ w'.cell? ⟨ad.block, ad.off + 3 + 1, none⟩ = some (.string b.f1) ∧ w'.cell? ⟨ad.block, ad.off + 3 + 2, none⟩ = some (.slice A3 b.f2.length c3))) (ds := [14]) (bl 15 0) (by kernel_rfl) rfl rfl (⟨F0.2.2.1, hx⟩) (fun hHeld => ?_); refine with_tabW tabCi bitsC (fun HT_ HW_ => ?_)
  clear F0 hx
  replace H := H.drew
  refine ph_ 0 60 (bl 15 1) HT_ ?_
  refine ph_ 4 64 (bl 15 17) HT_ ?_
  refine ph_ 6 66 (bl 15 81) HT_ ?_
  refine th_ 1 61 (bl 15 83) HT_ HW_ hHeld ?_
  refine ph_ 2 62 (bl 15 87) HT_ ?_
  refine th_ 3 63 (bl 15 95) HT_ HW_ hHeld ?_
  refine th_ 7 67 (bl 15 223) HT_ HW_ hHeld ?_
  refine ph_ 8 68 (bl 15 479) HT_ ?_
  refine th_ 9 69 (bl 15 991) HT_ HW_ hHeld ?_
  refine join_ (σ := Value × Value × Nat × Nat) 1 (bl 15 16383) (fun s_ => [(65, s_.1), (70, s_.2.1), (71, .slice (some ⟨s_.2.2.1, 0, none⟩) 2 2), (72, .agg #[.int .i64 5, .string ⟨#[]⟩, .slice (some ⟨s_.2.2.1, 0, none⟩) 2 2]), (8, .pointer (some ⟨s_.2.2.2, 0, none⟩))]) (fun s_ w' => Sl w w' [bx g1 #[.int .i64 5, .string k0, .slice (some ad) 2 c] 29, bx g2 zt 29, tre (.slice (some ⟨s_.2.2.1, 0, none⟩) 2 2) [q, b], bx s_.2.2.2 zt 29]) ?_ ?_
  rotate_left
  · intro hCont
    refine tw_ 5 13 (some 65) (some 8) (bl 15 1023) (bl 15 9183) HT_ (fun K hK => ?_) (fun K hK => ?_)
    · refine gO_ Try.func56 #[tv a A2 c2, .string l] ((ih A2 c2 _ (Kd.C_below HC2.out H.bel) HL2.out).mono ?_)
      rintro e w2 ⟨v2, rfl, H2⟩
      obtain ⟨A4, c4, rfl, -, -⟩ := H2.tv 0
      refine ⟨_, rfl, hK.out _ _ (sb_ H2.bel hHeld) (fun hHeld => ?_)⟩
      replace H := H.call H2
      clear hK K H2
      refine nm_ 65 ?_
      refine tw_ 10 13 (some 70) (some 8) (bl 15 2047) (bl 15 9215) HT_ (fun K hK => ?_) (fun K hK => ?_)
      · refine gO_ Try.func82 #[tv b A3 c3] ((cloneCalls n b A3 c3 _ HT.out (Kd.C_below HC3.out H.bel) HL3.out).mono ?_)
        rintro e w3 ⟨v3, rfl, H3⟩
        obtain ⟨A5, c5, rfl, -, -⟩ := H3.tv 0
        refine ⟨_, rfl, hK.out _ _ (sb_ H3.bel hHeld) (fun hHeld => ?_)⟩
        replace H := H.call H3
        clear hK K H3
        refine nm_ 70 ?_
        refine tw_ 11 13 (some 71) (some 8) (bl 15 4095) (bl 15 10239) HT_ (fun K hK => ?_) (fun K hK => ?_)
        · refine bb_ (t1 := q) (t2 := b) H 2 3 (fun h w6 H6 hb => ?_)
          refine hK.out _ _ (sb_ hb hHeld) (fun hHeld => ?_)
          clear hK K H hb
          have H := H6
          clear H6
          refine nm_ 71 ?_
          refine ph_ 12 72 (bl 15 8191) HT_ ?_
          refine on_ 13 (some 8) (bl 15 16383) HT_ (fun K hK => ?_)
          refine ns_ H 8 zt 29 rfl (fun ga w5 H5 hb => ?_)
          refine hK.out _ _ (sb_ hb hHeld) (fun hHeld => ?_)
          clear hK K H hb
          have H := H5
          clear H5
          refine nm_ 8 ?_
          exact ed_ (hCont (_, _, h, ga) _ (H.sel [0, 1, 2, 4]))
        · refine ns_ H 8 zt 29 rfl (fun ga w5 H5 hb => ?_)
          refine hK.out _ _ (sb_ hb hHeld) (fun hHeld => ?_)
          clear hK K H hb
          have H := H5
          clear H5
          refine nm_ 8 ?_
          refine on_ 11 (some 71) (bl 15 12287) HT_ (fun K hK => ?_)
          refine bb_ (t1 := q) (t2 := b) H 2 3 (fun h w6 H6 hb => ?_)
          refine hK.out _ _ (sb_ hb hHeld) (fun hHeld => ?_)
          clear hK K H hb
          have H := H6
          clear H6
          refine nm_ 71 ?_
          refine ph_ 12 72 (bl 15 16383) HT_ ?_
          exact ed_ (hCont (_, _, h, ga) _ (H.sel [0, 1, 2, 4]))
      · refine ns_ H 8 zt 29 rfl (fun ga w5 H5 hb => ?_)
        refine hK.out _ _ (sb_ hb hHeld) (fun hHeld => ?_)
        clear hK K H hb
        have H := H5
        clear H5
        refine nm_ 8 ?_
        refine on_ 10 (some 70) (bl 15 10239) HT_ (fun K hK => ?_)
        refine gO_ Try.func82 #[tv b A3 c3] ((cloneCalls n b A3 c3 _ HT.out (Kd.C_below HC3.out H.bel) HL3.out).mono ?_)
        rintro e w3 ⟨v3, rfl, H3⟩
        obtain ⟨A5, c5, rfl, -, -⟩ := H3.tv 0
        refine ⟨_, rfl, hK.out _ _ (sb_ H3.bel hHeld) (fun hHeld => ?_)⟩
        replace H := H.call H3
        clear hK K H3
        refine nm_ 70 ?_
        refine on_ 11 (some 71) (bl 15 12287) HT_ (fun K hK => ?_)
        refine bb_ (t1 := q) (t2 := b) H 2 4 (fun h w6 H6 hb => ?_)
        refine hK.out _ _ (sb_ hb hHeld) (fun hHeld => ?_)
        clear hK K H hb
        have H := H6
        clear H6
        refine nm_ 71 ?_
        refine ph_ 12 72 (bl 15 16383) HT_ ?_
        exact ed_ (hCont (_, _, h, ga) _ (H.sel [0, 1, 2, 3]))
    · refine ns_ H 8 zt 29 rfl (fun ga w5 H5 hb => ?_)
      refine hK.out _ _ (sb_ hb hHeld) (fun hHeld => ?_)
      clear hK K H hb
      have H := H5
      clear H5
      refine nm_ 8 ?_
      refine on_ 5 (some 65) (bl 15 9215) HT_ (fun K hK => ?_)
      refine gO_ Try.func56 #[tv a A2 c2, .string l] ((ih A2 c2 _ (Kd.C_below HC2.out H.bel) HL2.out).mono ?_)
      rintro e w2 ⟨v2, rfl, H2⟩
      obtain ⟨A4, c4, rfl, -, -⟩ := H2.tv 0
      refine ⟨_, rfl, hK.out _ _ (sb_ H2.bel hHeld) (fun hHeld => ?_)⟩
      replace H := H.call H2
      clear hK K H2
      refine nm_ 65 ?_
      refine on_ 10 (some 70) (bl 15 10239) HT_ (fun K hK => ?_)
      refine gO_ Try.func82 #[tv b A3 c3] ((cloneCalls n b A3 c3 _ HT.out (Kd.C_below HC3.out H.bel) HL3.out).mono ?_)
      rintro e w3 ⟨v3, rfl, H3⟩
      obtain ⟨A5, c5, rfl, -, -⟩ := H3.tv 0
      refine ⟨_, rfl, hK.out _ _ (sb_ H3.bel hHeld) (fun hHeld => ?_)⟩
      replace H := H.call H3
      clear hK K H3
      refine nm_ 70 ?_
      refine on_ 11 (some 71) (bl 15 12287) HT_ (fun K hK => ?_)
      refine bb_ (t1 := q) (t2 := b) H 3 4 (fun h w6 H6 hb => ?_)
      refine hK.out _ _ (sb_ hb hHeld) (fun hHeld => ?_)
      clear hK K H hb
      have H := H6
      clear H6
      refine nm_ 71 ?_
      refine ph_ 12 72 (bl 15 16383) HT_ ?_
      exact ed_ (hCont (_, _, h, ga) _ (H.sel [0, 1, 3, 2]))
  rintro ⟨u65, u70, h, ga⟩ w7 H
  refine norm_ (a' := ?_) ?_ ?_
  rotate_left
  · show putAll _ _ = _
    simp only [putAll, Act.put, List.setIfInBounds_toArray, List.set_cons_zero, List.set_cons_succ]
    rfl
  dsimp only at H
  refine last_ (i := 14) (N := none) (bl 15 32767) rfl rfl (one_of HT_.out (by kernel_rfl)) (by decide) (fun K hK => ?_)
  have F3 := H.f3 3
  refine s3_ H 3 (fun w8 H => ?_)
  refine hK.out _ _ ?_
  clear hK K F3
  refine done_ (done_of HT_.out (by kernel_rfl)) ?_
  clear HT_ HW_
  have hx := HX.out
  replace hx := And.imp H.old (And.imp H.old (And.imp H.old (And.imp H.old (And.imp H.old H.old)))) hx
  have F0 := H.f3 0
  cases res
  · have e := HQ.out
    rw [if_neg (by decide)] at e
    subst e
    go_wp2_with (first | ((with_reducible refine gate_callee (f := 54) rfl ?_); refine gL_ (some 77) Try.func54 #[tv a A2 c2, .string ⟨#[]⟩] ((HM.out _ H.bel).mono ?_); rintro e w9 ⟨rfl, hb⟩; refine ⟨_, rfl, ?_⟩; replace H := H.only hb; clear hx F0 hb; have F1 := H.f3 1; have F3 := H.f3 3) | (refine p3_ H 4 1 rfl ?_; clear H F1 F3; intro w1 H))
    refine bodyPost_ret (results_cell_row rfl _ _ g2 29 _ (0, 0) _ rfl (H.blk 1 rfl) hu rfl (by kernel_rfl)) rfl ?_
    exact ⟨_, rfl, H.one 2⟩
  · have e := HQ.out
    rw [if_pos rfl] at e
    subst e
    go_wp2_with ((with_reducible refine gate_callee (f := 54) rfl ?_); refine gL_ (some 77) Try.func54 #[tv a A2 c2, .string ⟨#[]⟩] ((HM.out _ H.bel).mono ?_); rintro e w9 ⟨rfl, hb⟩; refine ⟨_, rfl, ?_⟩; replace H := H.only hb; clear hx F0 hb)
    have hx := HX.out.2.2.2
    replace hx := And.imp H.old (And.imp H.old H.old) hx
    have F0 := H.f3 0
    have F3 := H.f3 3
    refine start_ (n := 10) (S := (fun w' => w'.cell? ⟨g1, 2, none⟩ = some (.slice (some ad) 2 c) ∧ w'.cell? ⟨ga, 0, none⟩ = some (.int .i64 5) ∧ w'.cell? ⟨ga, 1, none⟩ = some (.string ⟨#[]⟩) ∧ w'.cell? ⟨ga, 2, none⟩ = some (.slice (some ⟨h, 0, none⟩) 2 2) ∧ w'.cell? ⟨ad.block, ad.off + 3, none⟩ = some (.int .i64 b.f0) ∧ w'.cell? ⟨ad.block, ad.off + 3 + 1, none⟩ = some (.string b.f1) ∧ w'.cell? ⟨ad.block, ad.off + 3 + 2, none⟩ = some (.slice A3 b.f2.length c3))) (ds := [7, 9]) (bl 10 0) (by kernel_rfl) rfl rfl (⟨F0.2.2.1, F3.1.1, F3.2.1.1, F3.2.2.1, hx⟩) (fun hHeld => ?_); refine with_tabW tabDi bitsD (fun HT_ HW_ => ?_)
    clear F0 F3 hx
    replace H := H.drew
    refine ph_ 1 79 (bl 10 2) HT_ ?_
    refine ph_ 5 83 (bl 10 34) HT_ ?_
    refine th_ 0 78 (bl 10 35) HT_ HW_ hHeld ?_
    refine th_ 2 80 (bl 10 39) HT_ HW_ hHeld ?_
    refine ph_ 3 81 (bl 10 47) HT_ ?_
    refine th_ 4 82 (bl 10 63) HT_ HW_ hHeld ?_
    refine on_ 6 (some 84) (bl 10 127) HT_ (fun K hK => ?_)
    refine gO_ Try.func56 #[tv b A3 c3, .string l] ((ih2 A3 c3 _ (Kd.C_below HC3.out H.bel) HL3.out).mono ?_)
    rintro e w2 ⟨v2, rfl, H2⟩
    obtain ⟨A4, c4, rfl, -, -⟩ := H2.tv 0
    replace H := H.call H2
    refine ⟨_, rfl, ?_⟩
    refine hK.out _ _ ((sb_ H2.bel hHeld)) (fun hHeld => ?_)
    clear hK K
    refine nm_ 84 ?_
    refine last_ (i := 7) (N := some 85) (bl 10 255) rfl rfl (one_of HT_.out (by kernel_rfl)) (by decide) (fun K hK => ?_)
    refine bb_ (t1 := ⟨5, ⟨#[]⟩, [q, b]⟩) (t2 := q2) H 2 4 (fun h2 w11 H _ => ?_)
    refine hK.out _ _ ?_
    clear hK K
    refine nm_ 85 ?_
    refine ph_ 8 86 (bl 10 511) HT_ ?_
    refine last_ (i := 9) (N := none) (bl 10 1023) rfl rfl (one_of HT_.out (by kernel_rfl)) (by decide) (fun K hK => ?_)
    have F1 := H.f3 1
    refine s3_ H 1 (fun w4 H => ?_)
    refine hK.out _ _ ?_
    clear hK K F1
    refine done_ (done_of HT_.out (by kernel_rfl)) ?_
    clear HT_ HW_ hHeld
    go_wp2
    refine bodyPost_ret (results_cell_row rfl _ _ g2 29 _ (0, 0) _ rfl (H.blk 1 rfl) hu rfl (by kernel_rfl)) rfl ?_
    exact ⟨_, rfl, H.one 2⟩
end Go.Proofs.Ytldgkgdgcfllmaa
end
section
namespace Go.Proofs.Ytldgkgdgcfllmaa
open Go.RowKit Go.Shelf Go.Proofs.Ytldgkgdgcfllmaa.P Go.Proofs.Ytldgkgdgcfllmaa.Pl Go.Proofs.Ytldgkgdgcfllmaa.Rg Go.Proofs.YtldgkgdgcfllmaaW.PrintWords Go.Proofs.YtldgkgdgcfllmaaW.PrintLast Go.Proofs.YtldgkgdgcfllmaaW.PrintMore
set_option linter.unusedVariables false
set_option linter.unusedSimpArgs false
theorem tabSs : rtab .any (opsOf Try.f55 17) = Ts := by kernel_rfl
set_option maxHeartbeats 4000000 in
set_option maxRecDepth 100000 in
theorem dsStar (n : Nat) (l k0 : ByteArray) (a q : Tr) (hT : Tall n ⟨8, k0, [a]⟩) (ih : CT 55 l a q) : CT 55 l ⟨8, k0, [a]⟩ ⟨5, ⟨#[]⟩, [q, ⟨8, k0, [a]⟩]⟩ := by
  intro A c w hC hc
  obtain ⟨ad, A2, c2, y, rfl, ⟨rfl, -, -⟩, hx, hl2, hC2⟩ := kid_ hC 0 (by simp)
  rw [Nat.zero_mul, Addr.add_zero'] at hx
  change w.cell? ad = some (.int .i64 a.f0) ∧ w.cell? ⟨ad.block, ad.off + 1, none⟩ = some (.string a.f1) ∧ w.cell? ⟨ad.block, ad.off + 2, none⟩ = some (.slice A2 a.f2.length c2) at hx
  have HX := am_ hx
  have HC := am_ hC
  have HC2 := am_ hC2
  have HL2 := am_ hl2
  have HL := am_ hc
  have H := Sl.start w
  have hu := Try.underlying29
  clear hx hC hc hC2 hl2
  show Calls Try.prog 55 #[.agg #[.int .i64 8, .string k0, .slice (some ad) 1 c], .string l] w _
  go_enter Try.func55, Try.ntmps55
  go_wp2_with (first | (refine nw_ H 2 #[.int .i64 8, .string k0, .slice (some ad) 1 c] 29 rfl ?_; intro g1 w1 H) | (refine nw_ H 4 zt 29 rfl ?_; intro g2 w1 H; have F0 := H.f3 0))
  have hx := HX.out
  replace hx := And.imp H.old (And.imp H.old H.old) hx
  refine start_ (n := 11) (S := (fun w' => w'.cell? ⟨g1, 0, none⟩ = some (.int .i64 8) ∧ w'.cell? ⟨g1, 1, none⟩ = some (.string k0) ∧ w'.cell? ⟨g1, 2, none⟩ = some (.slice (some ad) 1 c) ∧ w'.cell? ad = some (.int .i64 a.f0) ∧ w'.cell? ⟨ad.block, ad.off + 1, none⟩ = some (.string a.f1) ∧ w'.cell? ⟨ad.block, ad.off + 2, none⟩ = some (.slice A2 a.f2.length c2))) (ds := [8, 10]) (bl 11 0) (by kernel_rfl) rfl rfl (⟨F0.1.1, F0.2.1.1, F0.2.2.1, hx⟩) (fun hHeld => ?_); refine with_tabW tabSs bitsS (fun HT_ HW_ => ?_)
  clear F0 hx
  replace H := H.drew
  refine ph_ 0 49 (bl 11 1) HT_ ?_
  refine ph_ 4 53 (bl 11 17) HT_ ?_
  refine th_ 1 50 (bl 11 19) HT_ HW_ hHeld ?_
  refine ph_ 2 51 (bl 11 23) HT_ ?_
  refine th_ 3 52 (bl 11 31) HT_ HW_ hHeld ?_
  refine th_ 6 55 (bl 11 95) HT_ HW_ hHeld ?_
  refine on_ 5 (some 54) (bl 11 127) HT_ (fun K hK => ?_)
  refine gO_ Try.func55 #[tv a A2 c2, .string l] ?_
  refine (ih A2 c2 _ (Kd.C_below HC2.out H.bel) HL2.out).mono ?_
  rintro e w2 ⟨v2, rfl, H2⟩
  replace H := H.call H2
  refine ⟨_, rfl, ?_⟩
  refine hK.out _ _ ((sb_ H2.bel hHeld)) (fun hHeld => ?_)
  clear hK K
  refine nm_ 54 ?_
  refine on_ 7 (some 56) (bl 11 255) HT_ (fun K hK => ?_)
  refine gO_ Try.func81 #[.agg #[.int .i64 8, .string k0, .slice (some ad) 1 c]] ?_
  refine (copyCalls n ⟨8, k0, [a]⟩ (some ad) c _ hT (Kd.C_below HC.out H.bel) HL.out).mono ?_
  rintro e w3 ⟨v3, rfl, H3⟩
  replace H := H.call H3
  refine ⟨_, rfl, ?_⟩
  refine hK.out _ _ ((sb_ H3.bel hHeld)) (fun hHeld => ?_)
  clear hK K
  refine nm_ 56 ?_
  obtain ⟨A3, c3, rfl, -, -⟩ := H.tv 2
  obtain ⟨A4, c4, (rfl : v3 = .slice A4 1 c4), -, -⟩ := H.tv 3
  refine last_ (i := 8) (N := some 57) (bl 11 511) rfl rfl (one_of HT_.out (by kernel_rfl)) (by decide) (fun K hK => ?_)
  refine value_ (w1 := ?_) (v := ?_) (by rfl) rfl ?_ ?_
  rotate_left 2
  · go_simp
    constructor
    · rfl
    · rfl
  refine hK.out _ _ ?_
  clear hK K
  refine nm_ 57 ?_
  replace H := H.lit2 (t1 := q) (t2 := ⟨8, k0, [a]⟩) 2 3 rfl rfl (by decide)
  refine ph_ 9 58 (bl 11 1023) HT_ ?_
  refine last_ (i := 10) (N := none) (bl 11 2047) rfl rfl (one_of HT_.out (by kernel_rfl)) (by decide) (fun K hK => ?_)
  have F1 := H.f3 1
  refine s3_ H 1 (fun w4 H => ?_)
  refine hK.out _ _ ?_
  clear hK K F1
  refine done_ (done_of HT_.out (by kernel_rfl)) ?_
  clear HT_ HW_ hHeld
  go_wp2
  refine bodyPost_ret (results_cell_row rfl _ _ g2 29 _ (0, 0) _ rfl (H.blk 1 rfl) hu rfl (by kernel_rfl)) rfl ?_
  exact ⟨_, rfl, H.one 2⟩
set_option maxHeartbeats 4000000 in
set_option maxRecDepth 100000 in
theorem dsLeaf (l k0 : ByteArray) (k : Int) (q : Tr) (h : ((k = 1 ∨ k = 2) ∧ q = ⟨1, ⟨#[]⟩, []⟩) ∨ (k = 4 ∧ q = ⟨2, ⟨#[]⟩, []⟩) ∨ k = 3 ∧ q = ⟨if k0 = l then 2 else 1, ⟨#[]⟩, []⟩) : CT 55 l ⟨k, k0, []⟩ q := by
  intro A c w hC hc
  have H := Sl.start w
  have hu := Try.underlying29
  clear hC hc
  show Calls Try.prog 55 #[.agg #[.int .i64 k, .string k0, .slice A 0 c], .string l] w _
  rcases h with ⟨rfl | rfl, rfl⟩ | ⟨rfl, rfl⟩ | ⟨rfl, rfl⟩
  rotate_right
  · by_cases e : k0 = l
    · have e1 : (k0.toList == l.toList) = true := beq_iff_eq.mpr (by rw [e])
      rw [if_pos e]
      clear e
      go_enter Try.func55, Try.ntmps55
      go_wp2_with (first | (refine nw_ H 2 #[.int .i64 _, .string k0, .slice A 0 c] 29 rfl ?_; intro g1 w1 H) | (refine nw_ H 4 zt 29 rfl ?_; intro g2 w1 H; have F0 := H.f3 0; have F1 := H.f3 1) | (refine p3_ H 4 1 rfl ?_; clear F0 F1; intro w1 H))
      refine bodyPost_ret (results_cell_row rfl _ _ g2 29 _ (0, 0) _ rfl (H.blk 1 rfl) hu rfl (by kernel_rfl)) rfl ?_
      exact ⟨_, rfl, (sub_nil H).one 2⟩
    · have e1 : (k0.toList == l.toList) = false := beq_eq_false_iff_ne.mpr (fun h => e (toList_iff.mp h))
      rw [if_neg e]
      clear e
      go_enter Try.func55, Try.ntmps55
      go_wp2_with (first | (refine nw_ H 2 #[.int .i64 _, .string k0, .slice A 0 c] 29 rfl ?_; intro g1 w1 H) | (refine nw_ H 4 zt 29 rfl ?_; intro g2 w1 H; have F0 := H.f3 0; have F1 := H.f3 1) | (refine p3_ H 4 1 rfl ?_; clear F0 F1; intro w1 H))
      refine bodyPost_ret (results_cell_row rfl _ _ g2 29 _ (0, 0) _ rfl (H.blk 1 rfl) hu rfl (by kernel_rfl)) rfl ?_
      exact ⟨_, rfl, (sub_nil H).one 2⟩
  all_goals
    go_enter Try.func55, Try.ntmps55
    go_wp2_with (first | (refine nw_ H 2 #[.int .i64 _, .string k0, .slice A 0 c] 29 rfl ?_; intro g1 w1 H) | (refine nw_ H 4 zt 29 rfl ?_; intro g2 w1 H; have F0 := H.f3 0; have F1 := H.f3 1) | (refine p3_ H 4 1 rfl ?_; clear F0 F1; intro w1 H))
    refine bodyPost_ret (results_cell_row rfl _ _ g2 29 _ (0, 0) _ rfl (H.blk 1 rfl) hu rfl (by kernel_rfl)) rfl ?_
    exact ⟨_, rfl, (sub_nil H).one 2⟩
end Go.Proofs.Ytldgkgdgcfllmaa
end
section
namespace Go.Proofs.Ytldgkgdgcfllmaa
open Go.RowKit Go.Shelf Go.Proofs.Ytldgkgdgcfllmaa.P Go.Proofs.Ytldgkgdgcfllmaa.Pl Go.Proofs.Ytldgkgdgcfllmaa.Rg Go.Proofs.YtldgkgdgcfllmaaW.PrintWords Go.Proofs.YtldgkgdgcfllmaaW.PrintLast Go.Proofs.YtldgkgdgcfllmaaW.PrintMore
set_option linter.unusedVariables false
set_option linter.unusedSimpArgs false
theorem tabCs : rtab .any (opsOf Try.f55 19) = Tc := by kernel_rfl
theorem tabDs : rtab .any (opsOf Try.f55 21) = Td := by kernel_rfl
set_option maxHeartbeats 8000000 in
set_option maxRecDepth 100000 in
theorem dsCat (n : Nat) (l k0 : ByteArray) (a b q q2 : Tr) (x : Rx) (hx : Ax a x) (hs : sz x ≤ 100) (hT : Tall n b) (ih : CT 55 l a q) (ih2 : CT 55 l b q2) :
    CT 55 l ⟨5, k0, [a, b]⟩ (if lan x [] = true then ⟨6, ⟨#[]⟩, [⟨5, ⟨#[]⟩, [q, b]⟩, q2]⟩ else ⟨5, ⟨#[]⟩, [q, b]⟩) := by
  intro A c w hC hc
  obtain ⟨ad, A2, c2, y, rfl, ⟨rfl, -, -⟩, hxa, hl2, hC2⟩ := kid_ hC 0 (by simp)
  obtain ⟨_, A3, c3, y, e, ⟨rfl, -, -⟩, hxb, hl3, hC3⟩ := kid_ hC 1 (by simp)
  obtain rfl := Option.some.inj e
  rw [Nat.zero_mul, Addr.add_zero'] at hxa
  rw [Nat.one_mul] at hxb
  change w.cell? ad = some (.int .i64 a.f0) ∧ w.cell? ⟨ad.block, ad.off + 1, none⟩ = some (.string a.f1) ∧ w.cell? ⟨ad.block, ad.off + 2, none⟩ = some (.slice A2 a.f2.length c2) at hxa
  change w.cell? ⟨ad.block, ad.off + 3, none⟩ = some (.int .i64 b.f0) ∧ w.cell? ⟨ad.block, ad.off + 3 + 1, none⟩ = some (.string b.f1) ∧ w.cell? ⟨ad.block, ad.off + 3 + 2, none⟩ = some (.slice A3 b.f2.length c3) at hxb
  have HX := am_ (And.intro hxa.1 (And.intro hxa.2.1 (And.intro hxa.2.2 hxb)))
  have HC2 := am_ hC2
  have HL2 := am_ hl2
  have HC3 := am_ hC3
  have HL3 := am_ hl3
  have HT := am_ hT
  have H := Sl.start w
  have hu := Try.underlying29
  clear hxa hxb hC hc hC2 hl2 hC3 hl3 hT
  obtain ⟨res, hres⟩ : ∃ r, r = lan x [] := ⟨_, rfl⟩
  have HM : Aside0 (∀ w', Below w.heap.size w w' → Calls Try.prog 52 #[tv a A2 c2, .string ⟨#[]⟩] w' fun e w2 => e = .returned (.bool res) ∧ Below w'.heap.size w' w2) := ⟨fun w' hb => by
    have := l4MatchCalls A2 c2 a x ⟨#[]⟩ w' hx (by omega) (by decide) (Kd.C_below HC2.out hb)
    rw [show bytesOf ⟨#[]⟩ = [] from rfl, ← hres] at this
    exact this⟩
  rw [← hres]
  obtain ⟨qq, hqq⟩ : ∃ r : Tr, r = if res = true then ⟨6, ⟨#[]⟩, [⟨5, ⟨#[]⟩, [q, b]⟩, q2]⟩ else ⟨5, ⟨#[]⟩, [q, b]⟩ := ⟨_, rfl⟩
  rw [← hqq]
  have HQ := am_ hqq
  clear hx hs hres hqq
  show Calls Try.prog 55 #[.agg #[.int .i64 5, .string k0, .slice (some ad) 2 c], .string l] w _
  go_enter Try.func55, Try.ntmps55
  go_wp2_with (first | (refine nw_ H 2 #[.int .i64 5, .string k0, .slice (some ad) 2 c] 29 rfl ?_; intro g1 w1 H) | (refine nw_ H 4 zt 29 rfl ?_; intro g2 w1 H; have F0 := H.f3 0))
  have hx := HX.out
  replace hx := And.imp H.old (And.imp H.old (And.imp H.old (And.imp H.old (And.imp H.old H.old)))) hx
  refine start_ (n := 15) (S := (fun w' => w'.cell? ⟨g1, 2, none⟩ = some (.slice (some ad) 2 c) ∧ w'.cell? ad = some (.int .i64 a.f0) ∧ w'.cell? ⟨ad.block, ad.off + 1, none⟩ = some (.string a.f1) ∧ w'.cell? ⟨ad.block, ad.off + 2, none⟩ = some (.slice A2 a.f2.length c2) ∧ w'.cell? ⟨ad.block, ad.off + 3, none⟩ = some (.int .i64 b.f0) ∧ w'.cell? ⟨ad.block, ad.off + 3 + 1, none⟩ = some (.string b.f1) ∧ w'.cell? ⟨ad.block, ad.off + 3 + 2, none⟩ = some (.slice A3 b.f2.length c3))) (ds := [14]) (bl 15 0) (by kernel_rfl) rfl rfl (⟨F0.2.2.1, hx⟩) (fun hHeld => ?_); refine with_tabW tabCs bitsC (fun HT_ HW_ => ?_)
  clear F0 hx
  replace H := H.drew
  refine ph_ 0 61 (bl 15 1) HT_ ?_
  refine ph_ 4 65 (bl 15 17) HT_ ?_
  refine ph_ 6 67 (bl 15 81) HT_ ?_
  refine th_ 1 62 (bl 15 83) HT_ HW_ hHeld ?_
  refine ph_ 2 63 (bl 15 87) HT_ ?_
  refine th_ 3 64 (bl 15 95) HT_ HW_ hHeld ?_
  refine th_ 7 68 (bl 15 223) HT_ HW_ hHeld ?_
  refine ph_ 8 69 (bl 15 479) HT_ ?_
  refine th_ 9 70 (bl 15 991) HT_ HW_ hHeld ?_
  refine join_ (σ := Value × Value × Nat × Nat) 1 (bl 15 16383) (fun s_ => [(66, s_.1), (71, s_.2.1), (72, .slice (some ⟨s_.2.2.1, 0, none⟩) 2 2), (73, .agg #[.int .i64 5, .string ⟨#[]⟩, .slice (some ⟨s_.2.2.1, 0, none⟩) 2 2]), (7, .pointer (some ⟨s_.2.2.2, 0, none⟩))]) (fun s_ w' => Sl w w' [bx g1 #[.int .i64 5, .string k0, .slice (some ad) 2 c] 29, bx g2 zt 29, tre (.slice (some ⟨s_.2.2.1, 0, none⟩) 2 2) [q, b], bx s_.2.2.2 zt 29]) ?_ ?_
  rotate_left
  · intro hCont
    refine tw_ 5 13 (some 66) (some 7) (bl 15 1023) (bl 15 9183) HT_ (fun K hK => ?_) (fun K hK => ?_)
    · refine gO_ Try.func55 #[tv a A2 c2, .string l] ((ih A2 c2 _ (Kd.C_below HC2.out H.bel) HL2.out).mono ?_)
      rintro e w2 ⟨v2, rfl, H2⟩
      obtain ⟨A4, c4, rfl, -, -⟩ := H2.tv 0
      refine ⟨_, rfl, hK.out _ _ (sb_ H2.bel hHeld) (fun hHeld => ?_)⟩
      replace H := H.call H2
      clear hK K H2
      refine nm_ 66 ?_
      refine tw_ 10 13 (some 71) (some 7) (bl 15 2047) (bl 15 9215) HT_ (fun K hK => ?_) (fun K hK => ?_)
      · refine gO_ Try.func81 #[tv b A3 c3] ((copyCalls n b A3 c3 _ HT.out (Kd.C_below HC3.out H.bel) HL3.out).mono ?_)
        rintro e w3 ⟨v3, rfl, H3⟩
        obtain ⟨A5, c5, rfl, -, -⟩ := H3.tv 0
        refine ⟨_, rfl, hK.out _ _ (sb_ H3.bel hHeld) (fun hHeld => ?_)⟩
        replace H := H.call H3
        clear hK K H3
        refine nm_ 71 ?_
        refine tw_ 11 13 (some 72) (some 7) (bl 15 4095) (bl 15 10239) HT_ (fun K hK => ?_) (fun K hK => ?_)
        · refine bb_ (t1 := q) (t2 := b) H 2 3 (fun h w6 H6 hb => ?_)
          refine hK.out _ _ (sb_ hb hHeld) (fun hHeld => ?_)
          clear hK K H hb
          have H := H6
          clear H6
          refine nm_ 72 ?_
          refine ph_ 12 73 (bl 15 8191) HT_ ?_
          refine on_ 13 (some 7) (bl 15 16383) HT_ (fun K hK => ?_)
          refine ns_ H 7 zt 29 rfl (fun ga w5 H5 hb => ?_)
          refine hK.out _ _ (sb_ hb hHeld) (fun hHeld => ?_)
          clear hK K H hb
          have H := H5
          clear H5
          refine nm_ 7 ?_
          exact ed_ (hCont (_, _, h, ga) _ (H.sel [0, 1, 2, 4]))
        · refine ns_ H 7 zt 29 rfl (fun ga w5 H5 hb => ?_)
          refine hK.out _ _ (sb_ hb hHeld) (fun hHeld => ?_)
          clear hK K H hb
          have H := H5
          clear H5
          refine nm_ 7 ?_
          refine on_ 11 (some 72) (bl 15 12287) HT_ (fun K hK => ?_)
          refine bb_ (t1 := q) (t2 := b) H 2 3 (fun h w6 H6 hb => ?_)
          refine hK.out _ _ (sb_ hb hHeld) (fun hHeld => ?_)
          clear hK K H hb
          have H := H6
          clear H6
          refine nm_ 72 ?_
          refine ph_ 12 73 (bl 15 16383) HT_ ?_
          exact ed_ (hCont (_, _, h, ga) _ (H.sel [0, 1, 2, 4]))
      · refine ns_ H 7 zt 29 rfl (fun ga w5 H5 hb => ?_)
        refine hK.out _ _ (sb_ hb hHeld) (fun hHeld => ?_)
        clear hK K H hb
        have H := H5
        clear H5
        refine nm_ 7 ?_
        refine on_ 10 (some 71) (bl 15 10239) HT_ (fun K hK => ?_)
        refine gO_ Try.func81 #[tv b A3 c3] ((copyCalls n b A3 c3 _ HT.out (Kd.C_below HC3.out H.bel) HL3.out).mono ?_)
        rintro e w3 ⟨v3, rfl, H3⟩
        obtain ⟨A5, c5, rfl, -, -⟩ := H3.tv 0
        refine ⟨_, rfl, hK.out _ _ (sb_ H3.bel hHeld) (fun hHeld => ?_)⟩
        replace H := H.call H3
        clear hK K H3
        refine nm_ 71 ?_
        refine on_ 11 (some 72) (bl 15 12287) HT_ (fun K hK => ?_)
        refine bb_ (t1 := q) (t2 := b) H 2 4 (fun h w6 H6 hb => ?_)
        refine hK.out _ _ (sb_ hb hHeld) (fun hHeld => ?_)
        clear hK K H hb
        have H := H6
        clear H6
        refine nm_ 72 ?_
        refine ph_ 12 73 (bl 15 16383) HT_ ?_
        exact ed_ (hCont (_, _, h, ga) _ (H.sel [0, 1, 2, 3]))
    · refine ns_ H 7 zt 29 rfl (fun ga w5 H5 hb => ?_)
      refine hK.out _ _ (sb_ hb hHeld) (fun hHeld => ?_)
      clear hK K H hb
      have H := H5
      clear H5
      refine nm_ 7 ?_
      refine on_ 5 (some 66) (bl 15 9215) HT_ (fun K hK => ?_)
      refine gO_ Try.func55 #[tv a A2 c2, .string l] ((ih A2 c2 _ (Kd.C_below HC2.out H.bel) HL2.out).mono ?_)
      rintro e w2 ⟨v2, rfl, H2⟩
      obtain ⟨A4, c4, rfl, -, -⟩ := H2.tv 0
      refine ⟨_, rfl, hK.out _ _ (sb_ H2.bel hHeld) (fun hHeld => ?_)⟩
      replace H := H.call H2
      clear hK K H2
      refine nm_ 66 ?_
      refine on_ 10 (some 71) (bl 15 10239) HT_ (fun K hK => ?_)
      refine gO_ Try.func81 #[tv b A3 c3] ((copyCalls n b A3 c3 _ HT.out (Kd.C_below HC3.out H.bel) HL3.out).mono ?_)
      rintro e w3 ⟨v3, rfl, H3⟩
      obtain ⟨A5, c5, rfl, -, -⟩ := H3.tv 0
      refine ⟨_, rfl, hK.out _ _ (sb_ H3.bel hHeld) (fun hHeld => ?_)⟩
      replace H := H.call H3
      clear hK K H3
      refine nm_ 71 ?_
      refine on_ 11 (some 72) (bl 15 12287) HT_ (fun K hK => ?_)
      refine bb_ (t1 := q) (t2 := b) H 3 4 (fun h w6 H6 hb => ?_)
      refine hK.out _ _ (sb_ hb hHeld) (fun hHeld => ?_)
      clear hK K H hb
      have H := H6
      clear H6
      refine nm_ 72 ?_
      refine ph_ 12 73 (bl 15 16383) HT_ ?_
      exact ed_ (hCont (_, _, h, ga) _ (H.sel [0, 1, 3, 2]))
  rintro ⟨u65, u70, h, ga⟩ w7 H
  refine norm_ (a' := ?_) ?_ ?_
  rotate_left
  · show putAll _ _ = _
    simp only [putAll, Act.put, List.setIfInBounds_toArray, List.set_cons_zero, List.set_cons_succ]
    rfl
  dsimp only at H
  refine last_ (i := 14) (N := none) (bl 15 32767) rfl rfl (one_of HT_.out (by kernel_rfl)) (by decide) (fun K hK => ?_)
  have F3 := H.f3 3
  refine s3_ H 3 (fun w8 H => ?_)
  refine hK.out _ _ ?_
  clear hK K F3
  refine done_ (done_of HT_.out (by kernel_rfl)) ?_
  clear HT_ HW_
  have hx := HX.out
  replace hx := And.imp H.old (And.imp H.old (And.imp H.old (And.imp H.old (And.imp H.old H.old)))) hx
  have F0 := H.f3 0
  cases res
  · have e := HQ.out
    rw [if_neg (by decide)] at e
    subst e
    go_wp2_with (first | ((with_reducible refine gate_callee (f := 52) rfl ?_); refine gL_ (some 78) Try.func52 #[tv a A2 c2, .string ⟨#[]⟩] ((HM.out _ H.bel).mono ?_); rintro e w9 ⟨rfl, hb⟩; refine ⟨_, rfl, ?_⟩; replace H := H.only hb; clear hx F0 hb; have F1 := H.f3 1; have F3 := H.f3 3) | (refine p3_ H 4 1 rfl ?_; clear H F1 F3; intro w1 H))
    refine bodyPost_ret (results_cell_row rfl _ _ g2 29 _ (0, 0) _ rfl (H.blk 1 rfl) hu rfl (by kernel_rfl)) rfl ?_
    exact ⟨_, rfl, H.one 2⟩
  · have e := HQ.out
    rw [if_pos rfl] at e
    subst e
    go_wp2_with ((with_reducible refine gate_callee (f := 52) rfl ?_); refine gL_ (some 78) Try.func52 #[tv a A2 c2, .string ⟨#[]⟩] ((HM.out _ H.bel).mono ?_); rintro e w9 ⟨rfl, hb⟩; refine ⟨_, rfl, ?_⟩; replace H := H.only hb; clear hx F0 hb)
    have hx := HX.out.2.2.2
    replace hx := And.imp H.old (And.imp H.old H.old) hx
    have F0 := H.f3 0
    have F3 := H.f3 3
    refine start_ (n := 10) (S := (fun w' => w'.cell? ⟨g1, 2, none⟩ = some (.slice (some ad) 2 c) ∧ w'.cell? ⟨ga, 0, none⟩ = some (.int .i64 5) ∧ w'.cell? ⟨ga, 1, none⟩ = some (.string ⟨#[]⟩) ∧ w'.cell? ⟨ga, 2, none⟩ = some (.slice (some ⟨h, 0, none⟩) 2 2) ∧ w'.cell? ⟨ad.block, ad.off + 3, none⟩ = some (.int .i64 b.f0) ∧ w'.cell? ⟨ad.block, ad.off + 3 + 1, none⟩ = some (.string b.f1) ∧ w'.cell? ⟨ad.block, ad.off + 3 + 2, none⟩ = some (.slice A3 b.f2.length c3))) (ds := [7, 9]) (bl 10 0) (by kernel_rfl) rfl rfl (⟨F0.2.2.1, F3.1.1, F3.2.1.1, F3.2.2.1, hx⟩) (fun hHeld => ?_); refine with_tabW tabDs bitsD (fun HT_ HW_ => ?_)
    clear F0 F3 hx
    replace H := H.drew
    refine ph_ 1 80 (bl 10 2) HT_ ?_
    refine ph_ 5 84 (bl 10 34) HT_ ?_
    refine th_ 0 79 (bl 10 35) HT_ HW_ hHeld ?_
    refine th_ 2 81 (bl 10 39) HT_ HW_ hHeld ?_
    refine ph_ 3 82 (bl 10 47) HT_ ?_
    refine th_ 4 83 (bl 10 63) HT_ HW_ hHeld ?_
    refine on_ 6 (some 85) (bl 10 127) HT_ (fun K hK => ?_)
    refine gO_ Try.func55 #[tv b A3 c3, .string l] ((ih2 A3 c3 _ (Kd.C_below HC3.out H.bel) HL3.out).mono ?_)
    rintro e w2 ⟨v2, rfl, H2⟩
    obtain ⟨A4, c4, rfl, -, -⟩ := H2.tv 0
    replace H := H.call H2
    refine ⟨_, rfl, ?_⟩
    refine hK.out _ _ ((sb_ H2.bel hHeld)) (fun hHeld => ?_)
    clear hK K
    refine nm_ 85 ?_
    refine last_ (i := 7) (N := some 86) (bl 10 255) rfl rfl (one_of HT_.out (by kernel_rfl)) (by decide) (fun K hK => ?_)
    refine bb_ (t1 := ⟨5, ⟨#[]⟩, [q, b]⟩) (t2 := q2) H 2 4 (fun h2 w11 H _ => ?_)
    refine hK.out _ _ ?_
    clear hK K
    refine nm_ 86 ?_
    refine ph_ 8 87 (bl 10 511) HT_ ?_
    refine last_ (i := 9) (N := none) (bl 10 1023) rfl rfl (one_of HT_.out (by kernel_rfl)) (by decide) (fun K hK => ?_)
    have F1 := H.f3 1
    refine s3_ H 1 (fun w4 H => ?_)
    refine hK.out _ _ ?_
    clear hK K F1
    refine done_ (done_of HT_.out (by kernel_rfl)) ?_
    clear HT_ HW_ hHeld
    go_wp2
    refine bodyPost_ret (results_cell_row rfl _ _ g2 29 _ (0, 0) _ rfl (H.blk 1 rfl) hu rfl (by kernel_rfl)) rfl ?_
    exact ⟨_, rfl, H.one 2⟩
end Go.Proofs.Ytldgkgdgcfllmaa
end
section
namespace Go.Proofs.Ytldgkgdgcfllmaa
open Go.RowKit Go.Shelf Go.Proofs.Ytldgkgdgcfllmaa.P Go.Proofs.Ytldgkgdgcfllmaa.Pl Go.Proofs.Ytldgkgdgcfllmaa.Rg Go.Proofs.YtldgkgdgcfllmaaW.PrintWords Go.Proofs.YtldgkgdgcfllmaaW.PrintLast Go.Proofs.YtldgkgdgcfllmaaW.PrintMore
set_option linter.unusedVariables false
set_option linter.unusedSimpArgs false
def Tn : Bool × List (List Nat × List Nat) := (true, [([], []), ([0], [0]), ([], []), ([2], [2]), ([], []), ([3, 4], [3, 4]), ([5], [5]), ([], []), ([6, 7], [6, 7]), ([8], [8]), ([1, 9, 8], [1, 9]), ([0, 1, 2, 3, 4, 5, 6, 7, 8, 9, 10], []), ([11, 10, 10, 0, 1, 2, 3, 4, 5, 6, 7, 8, 9, 10], [10, 11])])
def Bn : List Nat := [0, 1, 0, 4, 0, 28, 60, 0, 252, 508, 1023, 2047, 4095]
theorem bitsN : waitsOk Tn.2 Bn = true := by kernel_rfl
theorem tabNs : rtab .any (opsOf Try.f55 14) = Tn := by kernel_rfl
set_option maxHeartbeats 4000000 in
set_option maxRecDepth 100000 in
theorem dsMany (l k0 : ByteArray) (k : Int) (hk : k = 6 ∨ k = 7 ∨ k = 9) (xs : List Tr) (f : Tr → Tr) (hl : xs.length ≤ 1000000) (ih : ∀ a ∈ xs, CT 55 l a (f a)) : CT 55 l ⟨k, k0, xs⟩ ⟨k, ⟨#[]⟩, xs.map f⟩ := by
  intro A c w hC hc
  have HC : Aside0 (Kd.C k29 w A xs.length xs) := ⟨hC⟩
  have HIH := am_ ih
  have HL := am_ hl
  have H := Sl.start w
  have hu := Try.underlying29
  clear hC hc ih hl
  show Calls Try.prog 55 #[.agg #[.int .i64 k, .string k0, .slice A xs.length c], .string l] w _
  rcases hk with rfl | rfl | rfl
  all_goals
    go_enter Try.func55, Try.ntmps55
    go_wp2_with (first | (refine nw_ H 2 #[.int .i64 _, .string k0, .slice A xs.length c] 29 rfl ?_; clear H; intro g1 w1 H) | (refine nw_ H 4 zt 29 rfl ?_; clear H; intro g2 w1 H; have F0 := H.f3 0) | (refine nw_ H 5 zt 29 rfl ?_; clear H F0; intro g3 w1 H; have F2 := H.f3 2) | (refine p3_ H 5 2 rfl ?_; clear H F2; intro w1 H))
    go_loopg [6] xs.length (fun gg v14 w' => ∃ (i : Nat) (v : Value), v14 = .int .i64 (i : Int) ∧ Aside0 (i ≤ xs.length ∧ xs.length ≤ gg + i) ∧ Sl w w' [bx g1 #[.int .i64 _, .string k0, .slice A xs.length c] 29, bx g2 zt 29, bx g3 #[.int .i64 _, .string ⟨#[]⟩, v] 29, tre v ((xs.take i).map f)])
    case atStart => exact ⟨0, _, rfl, ⟨Nat.zero_le _, by omega⟩, sub_nil H⟩
    case round =>
      clear H
      obtain ⟨i, v, rfl, HI, H⟩ := hrel
      have F0 := H.f3 0
      by_cases hi : i < xs.length
      · obtain ⟨g1_, rfl⟩ : ∃ q, gk = q + 1 := ⟨gk - 1, by have := HI.out; omega⟩
        obtain ⟨ad, A2, c2, y, rfl, ⟨-, hy, hm⟩, hx, hl2, hC2⟩ := kid_ HC.out i hi
        have HY := am_ hy
        have HM := am_ (HIH.out y hm)
        have HL2 := am_ hl2
        have HC2 := am_ hC2
        replace hx := And.imp H.old (And.imp H.old H.old) hx
        have p1 : ((0 : Int) ≤ (i : Int)) = True := eq_true (by omega)
        have q1 : ((i : Int) < (xs.length : Int)) = True := eq_true (by omega)
        have HI2 := am_ hi
        clear hy hm hl2 hC2 hi
        have F2 := H.f3 2
        go_wp2
        refine start_ (n := 13) (S := (fun w' => w'.cell? ⟨g3, 2, none⟩ = some v ∧ w'.cell? ⟨g1, 2, none⟩ = some (.slice (some ad) xs.length c) ∧ w'.cell? (ad.add (i * 3)) = some (.int .i64 y.f0) ∧ w'.cell? ⟨(ad.add (i * 3)).block, (ad.add (i * 3)).off + 1, none⟩ = some (.string y.f1) ∧ w'.cell? ⟨(ad.add (i * 3)).block, (ad.add (i * 3)).off + 2, none⟩ = some (.slice A2 y.f2.length c2))) (ds := [10, 12]) (bl 13 0) (by kernel_rfl) rfl rfl (⟨F2.2.2.1, F0.2.2.1, hx⟩) (fun hHeld => ?_); refine with_tabW tabNs bitsN (fun HT_ HW_ => ?_)
        clear F2 F0 hx
        replace H := H.drew
        refine ph_ 0 34 (bl 13 1) HT_ ?_
        refine ph_ 2 36 (bl 13 5) HT_ ?_
        refine ph_ 4 38 (bl 13 21) HT_ ?_
        refine ph_ 7 41 (bl 13 149) HT_ ?_
        refine th_ 1 35 (bl 13 151) HT_ HW_ hHeld ?_
        refine th_ 3 37 (bl 13 159) HT_ HW_ hHeld ?_
        refine ph_ 5 39 (bl 13 191) HT_ ?_
        refine th_ 6 40 (bl 13 255) HT_ HW_ hHeld ?_
        refine on_ 8 (some 42) (bl 13 511) HT_ (fun K hK => ?_)
        refine gO_ Try.func55 #[tv y A2 c2, .string l] ?_
        refine (HM.out A2 c2 _ (Kd.C_below HC2.out H.bel) HL2.out).mono ?_
        rintro e w2 ⟨v2, rfl, H2⟩
        replace H := H.call H2
        refine ⟨_, rfl, ?_⟩
        refine hK.out _ _ ((sb_ H2.bel hHeld)) (fun hHeld => ?_)
        clear hK K
        refine nm_ 42 ?_
        refine on_ 9 (some 43) (bl 13 1023) HT_ (fun K hK => ?_)
        refine value_ (w1 := ?_) (v := ?_) (by rfl) rfl ?_ ?_
        rotate_left 2
        · go_simp
          constructor
          · rfl
          · rfl
        refine hK.out _ _ ((sb_ ba_ hHeld)) (fun hHeld => ?_)
        clear hK K
        refine nm_ 43 ?_
        refine last_ (i := 10) (N := some 44) (bl 13 2047) rfl rfl (one_of HT_.out (by kernel_rfl)) (by decide) (fun K hK => ?_)
        refine ap_ H 3 4 (fun A1 n1 c1 w3 H => ?_) ?_
        rotate_left
        · exact Nat.lt_of_le_of_lt (by rw [List.length_map, List.length_take]; exact Nat.min_le_right _ _) (Nat.lt_of_le_of_lt HL.out (by decide))
        refine hK.out _ _ ?_
        clear hK K
        refine nm_ 44 ?_
        refine ph_ 11 45 (bl 13 4095) HT_ ?_
        refine last_ (i := 12) (N := none) (bl 13 8191) rfl rfl (one_of HT_.out (by kernel_rfl)) (by decide) (fun K hK => ?_)
        have F2 := H.f3 2
        refine s1_ H 2 2 (fun w4 H => ?_)
        refine hK.out _ _ ?_
        clear hK K F2
        refine done_ (done_of HT_.out (by kernel_rfl)) ?_
        clear HT_ HW_ hHeld
        go_wp2
        go_roundg g1_
        case measure => omega
        case rel =>
          have H := H.pre 4
          exact ⟨i + 1, _, by rw [up1 (by have := HL.out; have := HI2.out; omega)], ⟨HI2.out, by have := HI.out; omega⟩, by rw [HY.out, List.map_append]; exact H⟩
      · have e : i = xs.length := by have := HI.out; omega
        subst e
        rw [List.take_length] at H
        have q1 : ((xs.length : Int) < (xs.length : Int)) = False := eq_false (by omega)
        obtain ⟨A3, c3, e3, -, -⟩ := H.tv 3
        rw [List.length_map] at e3
        subst e3
        have F1 := H.f3 1
        have F2 := H.f3 2
        go_wp2_with (refine p3_ H 4 1 rfl ?_; clear H F1 F2; intro w1 H)
        refine bodyPost_ret (results_cell_row rfl _ _ g2 29 _ (0, 0) _ rfl (H.blk 1 rfl) hu rfl (by kernel_rfl)) rfl ?_
        exact ⟨_, rfl, H.one 3⟩
end Go.Proofs.Ytldgkgdgcfllmaa
end
section
namespace Go.Proofs.Ytldgkgdgcfllmaa.Rk
open Go.RowKit Go.Deep Go.ChangeShapes Go.WideShapes Go.Proofs.YtldgkgdgcfllmaaW.PrintWords Go.Proofs.YtldgkgdgcfllmaaW.PrintLast Go.Proofs.YtldgkgdgcfllmaaW.PrintMore
set_option linter.unusedVariables false
set_option linter.unusedSimpArgs false
variable {H : Type} {enc : TypeId × Value → H} {P : Program} {w : World} {base : Nat} {spare : Nat → Bool} {held : Bool} {α : Type}
end Go.Proofs.Ytldgkgdgcfllmaa.Rk
end
section
namespace Go.Proofs.Ytldgkgdgcfllmaa.Rk
open Go.RowKit Go.Deep Go.ChangeShapes Go.WideShapes Go.Proofs.Ytldgkgdgcfllmaa.P Go.Proofs.YtldgkgdgcfllmaaW.PrintWords Go.Proofs.YtldgkgdgcfllmaaW.PrintLast Go.Proofs.YtldgkgdgcfllmaaW.PrintMore
set_option linter.unusedVariables false
set_option linter.unusedSimpArgs false
variable {H : Type} {enc : TypeId × Value → H} {w : World} {base : Nat} {spare : Nat → Bool} {held : Bool}
end Go.Proofs.Ytldgkgdgcfllmaa.Rk
end
section
namespace Go.Proofs.Ytldgkgdgcfllmaa.P
open Go.RowKit Go.Proofs.YtldgkgdgcfllmaaW.PrintWords Go.Proofs.YtldgkgdgcfllmaaW.PrintLast Go.Proofs.YtldgkgdgcfllmaaW.PrintMore
attribute [local go_sem] max2_int min2_int max_two min_two max_three min_three max_four min_four
set_option linter.unusedVariables false
set_option linter.unusedSimpArgs false
end Go.Proofs.Ytldgkgdgcfllmaa.P
end
section
namespace Go.Proofs.Ytldgkgdgcfllmaa.P
open Go.RowKit Go.Proofs.YtldgkgdgcfllmaaW.PrintWords Go.Proofs.YtldgkgdgcfllmaaW.PrintLast Go.Proofs.YtldgkgdgcfllmaaW.PrintMore
attribute [local go_sem] max2_int min2_int max_two min_two max_three min_three max_four min_four
set_option linter.unusedVariables false
set_option linter.unusedSimpArgs false
end Go.Proofs.Ytldgkgdgcfllmaa.P
end
section
namespace Go.Proofs.Ytldgkgdgcfllmaa.P
open Go.RowKit Go.Proofs.YtldgkgdgcfllmaaW.PrintWords Go.Proofs.YtldgkgdgcfllmaaW.PrintLast Go.Proofs.YtldgkgdgcfllmaaW.PrintMore
attribute [local go_sem] max2_int min2_int max_two min_two max_three min_three max_four min_four
set_option linter.unusedVariables false
set_option linter.unusedSimpArgs false
end Go.Proofs.Ytldgkgdgcfllmaa.P
end
section
namespace Go.Proofs.Ytldgkgdgcfllmaa.Pl
open Go.RowKit Go.Proofs.Ytldgkgdgcfllmaa Go.Proofs.Ytldgkgdgcfllmaa.P Go.Proofs.Ytldgkgdgcfllmaa.Rk Go.Proofs.YtldgkgdgcfllmaaW.PrintWords Go.Proofs.YtldgkgdgcfllmaaW.PrintLast Go.Proofs.YtldgkgdgcfllmaaW.PrintMore
set_option linter.unusedVariables false
set_option linter.unusedSimpArgs false
abbrev TL := S24
abbrev TI := S29
mutual
theorem TI.ind {p : TI → Prop} (h : ∀ x : TI, (∀ y ∈ x.f2, p y) → p x) : ∀ x, p x
  | ⟨a, s, l⟩ => h _ (TI.inds h l)
theorem TI.inds {p : TI → Prop} (h : ∀ x : TI, (∀ y ∈ x.f2, p y) → p x) : ∀ (l : List TI), ∀ y ∈ l, p y
  | [], _, hy => by cases hy
  | x :: l, y, hy => by
    rcases List.mem_cons.mp hy with q | q
    · rw [q]; exact TI.ind h x
    · exact TI.inds h l y q
end
mutual
theorem TL.ind {p : TL → Prop} (h : ∀ x : TL, (∀ y ∈ x.f2, p y) → p x) : ∀ x, p x
  | ⟨a, s, l⟩ => h _ (TL.inds h l)
theorem TL.inds {p : TL → Prop} (h : ∀ x : TL, (∀ y ∈ x.f2, p y) → p x) : ∀ (l : List TL), ∀ y ∈ l, p y
  | [], _, hy => by cases hy
  | x :: l, y, hy => by
    rcases List.mem_cons.mp hy with q | q
    · rw [q]; exact TL.ind h x
    · exact TL.inds h l y q
end
mutual
def cv : TL → TI
  | ⟨a, s, l⟩ => ⟨a, s, cvs l⟩
def cvs : List TL → List TI
  | [] => []
  | x :: l => cv x :: cvs l
end
theorem rdTI (l : List TI) (i : Nat) (h : i < l.length) : rd_T29 l (i : Int) = l[i] := by
  unfold rd_T29
  rw [Int.toNat_natCast, List.getD_eq_getElem?_getD, List.getElem?_eq_getElem h]
  rfl
inductive Thin : TI → Prop
  | mk (x : TI) (h : x.f2.length ≤ 1048576) (hs : x.f1.size ≤ 1048576) (hc : ∀ y ∈ x.f2, Thin y) : Thin x
end Go.Proofs.Ytldgkgdgcfllmaa.Pl
end
section
namespace Go.Proofs.Ytldgkgdgcfllmaa.Pl
open Go.RowKit Go.Proofs.Ytldgkgdgcfllmaa.P Go.Proofs.YtldgkgdgcfllmaaW.PrintWords Go.Proofs.YtldgkgdgcfllmaaW.PrintLast Go.Proofs.YtldgkgdgcfllmaaW.PrintMore
set_option linter.unusedVariables false
set_option linter.unusedSimpArgs false
def letIdx (b : Int) : Int := if b = 97 then 0 else if b = 98 then 1 else if b = 99 then 2 else -1
theorem spec_letter (b : Int) : Ev (fun k => spec_LetterIndex.f k b) (letIdx b) := by
  simp only [spec_LetterIndex.f]
  have e0 : bt (⟨#[97, 98, 99]⟩ : ByteArray) 0 = 97 := rfl
  have e1 : bt (⟨#[97, 98, 99]⟩ : ByteArray) 1 = 98 := rfl
  have e2 : bt (⟨#[97, 98, 99]⟩ : ByteArray) 2 = 99 := rfl
  have w0 : wrap64 ((0 : Int) + 1) = 1 := by unfold wrap64; omega
  have w1 : wrap64 ((1 : Int) + 1) = 2 := by unfold wrap64; omega
  have w2 : wrap64 ((2 : Int) + 1) = 3 := by unfold wrap64; omega
  refine next ?_
  simp only [spec_LetterIndex.l0, if_pos (show (0 : Int) < 3 by omega), if_pos (show (0 : Int) ≤ 0 by omega), e0, w0, letIdx]
  by_cases h : b = 97
  · simp only [h, if_true]
    exact Ev.now _
  · simp only [if_neg h, if_neg (fun e => h (Eq.symm e))]
    refine next ?_
    simp only [spec_LetterIndex.l0, if_pos (show (1 : Int) < 3 by omega), if_pos (show (0 : Int) ≤ 1 by omega), e1, w1]
    by_cases h : b = 98
    · simp only [h, if_true]
      exact Ev.now _
    · simp only [if_neg h, if_neg (fun e => h (Eq.symm e))]
      refine next ?_
      simp only [spec_LetterIndex.l0, if_pos (show (2 : Int) < 3 by omega), if_pos (show (0 : Int) ≤ 2 by omega), e2, w2]
      by_cases h : b = 99
      · simp only [h, if_true]
        exact Ev.now _
      · simp only [if_neg h, if_neg (fun e => h (Eq.symm e))]
        refine next ?_
        simp only [spec_LetterIndex.l0, if_neg (show ¬ (3 : Int) < 3 by omega)]
        exact Ev.now _
theorem u8_eq {b : Int} (h0 : 0 ≤ b) (h1 : b ≤ 255) (c : Nat) (hc : c < 256) : (b.toNat.toUInt8 = UInt8.ofNat c) ↔ b = c := by
  constructor
  · intro h
    have := congrArg UInt8.toNat h
    simp at this
    omega
  · rintro rfl
    simp
theorem impl_letter {b : Int} (h0 : 0 ≤ b) (h1 : b ≤ 255) : impl_LetterIndex.f b = some (letIdx b) := by
  simp only [impl_LetterIndex.f, strings_IndexByte.f, Option.bind_some, letIdx]
  have e97 := u8_eq h0 h1 97 (by omega)
  have e98 := u8_eq h0 h1 98 (by omega)
  have e99 := u8_eq h0 h1 99 (by omega)
  congr 1
  by_cases h : b = 97
  · rw [h]; rfl
  · by_cases h2 : b = 98
    · rw [h2]; rfl
    · by_cases h3 : b = 99
      · rw [h3]; rfl
      · have n97 : ¬ b.toNat.toUInt8 = 97 := fun e => h (e97.mp e)
        have n98 : ¬ b.toNat.toUInt8 = 98 := fun e => h2 (e98.mp e)
        have n99 : ¬ b.toNat.toUInt8 = 99 := fun e => h3 (e99.mp e)
        rw [if_neg h, if_neg h2, if_neg h3]
        have q1 : ¬ (97 : UInt8) = b.toNat.toUInt8 := fun e => n97 e.symm
        have q2 : ¬ (98 : UInt8) = b.toNat.toUInt8 := fun e => n98 e.symm
        have q3 : ¬ (99 : UInt8) = b.toNat.toUInt8 := fun e => n99 e.symm
        simp only [Lib.indexByte, beq_iff_eq, n97, n98, n99, q1, q2, q3, if_false]
        rfl
def lets (l : List Int) : Bool := l.all fun b => decide (0 ≤ letIdx b)
def word (s : ByteArray) : Bool := lets (bytesOf s) && decide (s.size ≤ 30)
theorem spec_word_l0 (s : ByteArray) (hs : s.size ≤ 140737488351232) : ∀ d i : Nat, i + d = s.size → Ev (fun k => spec_IsWord.l0 k s i) (lets ((bytesOf s).drop i) && decide ((s.size : Int) ≤ 30)) := by
  intro d
  induction d with
  | zero =>
    intro i h
    refine next ?_
    simp only [spec_IsWord.l0, if_neg (show ¬ (i : Int) < (s.size : Int) by omega), drop_end s i (by omega)]
    exact ev_some (by simp [lets])
  | succ d ih =>
    intro i h
    refine next ?_
    simp only [spec_IsWord.l0, if_pos (show (i : Int) < (s.size : Int) by omega), if_pos (show (0 : Int) ≤ i by omega)]
    refine Ev.bind (spec_letter _) ?_
    rw [drop_cons s i (by omega)]
    by_cases hl : letIdx (bt s i) < 0
    · simp only [if_pos hl]
      exact ev_some (by simp [lets, show ¬ 0 ≤ letIdx (bt s i) by omega])
    · simp only [if_neg hl, up1 (show i < 9223372036854775807 by omega)]
      exact ev_eq (ih (i + 1) (by omega)) (by simp [lets, show 0 ≤ letIdx (bt s i) by omega])
theorem spec_word (s : ByteArray) (hs : s.size ≤ 140737488351232) : Ev (fun k => spec_IsWord.f k s) (word s) :=
  ev_eq (spec_word_l0 s hs s.size 0 (by omega)) (by
    have e : decide ((s.size : Int) ≤ 30) = decide (s.size ≤ 30) := decide_eq_decide.mpr (by omega)
    simp only [word, e, List.drop_zero])
theorem impl_lets_l0 (s : ByteArray) (hs : s.size ≤ 140737488351232) : ∀ d i : Nat, i + d = s.size → Ev (fun k => impl_isLetters.l0 k s i) (lets ((bytesOf s).drop i)) := by
  intro d
  induction d with
  | zero =>
    intro i h
    refine next ?_
    simp only [impl_isLetters.l0, if_neg (show ¬ (i : Int) < (s.size : Int) by omega), drop_end s i (by omega)]
    exact ev_some (by simp [lets])
  | succ d ih =>
    intro i h
    refine next ?_
    simp only [impl_isLetters.l0, if_pos (show (i : Int) < (s.size : Int) by omega), if_pos (show (0 : Int) ≤ i by omega), impl_letter (bt_range s i).1 (bt_range s i).2, Option.bind_some]
    rw [drop_cons s i (by omega)]
    by_cases hl : letIdx (bt s i) < 0
    · simp only [if_pos hl]
      exact ev_some (by simp [lets, show ¬ 0 ≤ letIdx (bt s i) by omega])
    · simp only [if_neg hl, up1 (show i < 9223372036854775807 by omega)]
      exact ev_eq (ih (i + 1) (by omega)) (by simp [lets, show 0 ≤ letIdx (bt s i) by omega])
theorem impl_word (s : ByteArray) (hs : s.size ≤ 140737488351232) : Ev (fun k => impl_IsWord.f k s) (word s) := by
  simp only [impl_IsWord.f]
  by_cases h : s.size ≤ 30
  · simp only [if_pos (show (s.size : Int) ≤ 30 by omega)]
    refine Ev.bind (impl_lets_l0 s hs s.size 0 (by omega)) ?_
    exact ev_some (by simp [word, h])
  · simp only [if_neg (show ¬ (s.size : Int) ≤ 30 by omega)]
    exact ev_some (by simp [word, h])
end Go.Proofs.Ytldgkgdgcfllmaa.Pl
end
section
namespace Go.Proofs.Ytldgkgdgcfllmaa.Pl
open Go.RowKit Go.Proofs.Ytldgkgdgcfllmaa Go.Proofs.Ytldgkgdgcfllmaa.P Go.Proofs.Ytldgkgdgcfllmaa.Rk Go.Proofs.YtldgkgdgcfllmaaW.PrintWords Go.Proofs.YtldgkgdgcfllmaaW.PrintLast Go.Proofs.YtldgkgdgcfllmaaW.PrintMore
set_option linter.unusedVariables false
set_option linter.unusedSimpArgs false
theorem empty_list : (⟨#[]⟩ : ByteArray).toList = ([] : List UInt8) := by rw [ByteArray.toList_eq]
def argsN (a : Int) : Int := if 1 ≤ a ∧ a ≤ 4 then 0 else if a = 8 ∨ a = 9 then 1 else if 5 ≤ a ∧ a ≤ 7 then 2 else -1
def shp (x : TI) : Bool := decide ((x.f2.length : Int) = argsN x.f0) && (if x.f0 = 3 then decide (x.f1.size = 1) && word x.f1 else decide (x.f1 = (⟨#[]⟩ : ByteArray)))
mutual
def nd : TI → Nat
  | ⟨_, _, l⟩ => 1 + nds l
def nds : List TI → Nat
  | [] => 0
  | x :: l => nd x + nds l
end
mutual
def dp : TI → Nat
  | ⟨_, _, l⟩ => dps l + 1
def dps : List TI → Nat
  | [] => 0
  | x :: l => max (dp x) (dps l)
end
mutual
def al : TI → Bool
  | ⟨a, s, l⟩ => als l && shp ⟨a, s, l⟩
def als : List TI → Bool
  | [] => true
  | x :: l => al x && als l
end
theorem nd_eq (x : TI) : nd x = 1 + nds x.f2 := by obtain ⟨a, s, l⟩ := x; rw [nd]
theorem dp_eq (x : TI) : dp x = dps x.f2 + 1 := by obtain ⟨a, s, l⟩ := x; rw [dp]
theorem al_eq (x : TI) : al x = (als x.f2 && shp x) := by obtain ⟨a, s, l⟩ := x; rw [al]
theorem nds_drop (l : List TI) (i : Nat) (h : i < l.length) : nds (l.drop i) = nd l[i] + nds (l.drop (i + 1)) := by rw [List.drop_eq_getElem_cons h, nds]
theorem dps_drop (l : List TI) (i : Nat) (h : i < l.length) : dps (l.drop i) = max (dp l[i]) (dps (l.drop (i + 1))) := by rw [List.drop_eq_getElem_cons h, dps]
theorem als_drop (l : List TI) (i : Nat) (h : i < l.length) : als (l.drop i) = (al l[i] && als (l.drop (i + 1))) := by rw [List.drop_eq_getElem_cons h, als]
theorem nd_pos (x : TI) : 1 ≤ nd x := by rw [nd_eq]; omega
theorem dp_pos (x : TI) : 1 ≤ dp x := by rw [dp_eq]; omega
theorem nd_mem {l : List TI} {x : TI} (h : x ∈ l) : nd x ≤ nds l := by
  induction l with
  | nil => cases h
  | cons a l ih =>
    rw [nds]
    rcases List.mem_cons.mp h with q | q
    · subst q; omega
    · have := ih q; omega
mutual
theorem dp_nd : ∀ x : TI, dp x ≤ nd x
  | ⟨a, s, l⟩ => by rw [dp, nd]; have := dps_nds l; omega
theorem dps_nds : ∀ l : List TI, dps l ≤ nds l
  | [] => Nat.le_refl _
  | x :: l => by rw [dps, nds]; have := dp_nd x; have := dps_nds l; omega
end
theorem argsN_spec (a : Int) : Ev (fun k => spec_l3Args.f k a) (if 5 ≤ a ∧ a ≤ 7 then 2 else if a = 8 ∨ a = 9 then 1 else 0) := by
  simp only [spec_l3Args.f]
  by_cases h5 : a = 5
  · subst h5; refine next ?_; exact ev_some rfl
  · by_cases h6 : a = 6
    · subst h6; refine next ?_; exact ev_some rfl
    · by_cases h7 : a = 7
      · subst h7; refine next ?_; exact ev_some rfl
      · simp only [if_neg h5, if_neg h6, show (a == 7) = false from by simpa using h7]
        refine next ?_
        simp only [spec_l3Args.j0, Bool.false_eq_true, if_false]
        by_cases h8 : a = 8
        · subst h8; exact ev_some rfl
        · by_cases h9 : a = 9
          · subst h9; exact ev_some rfl
          · simp only [if_neg h8, if_neg h9]
            exact ev_some (by rw [if_neg (by omega), if_neg (by omega)])
theorem argsN_impl (a : Int) : Ev (fun k => impl_argsOf.f k a) (argsN a) := by
  simp only [impl_argsOf.f]
  have rest : (¬ (a == 4) = true ∧ ¬ (1 ≤ a ∧ a ≤ 4)) → Ev (fun k => impl_argsOf.j0 k a (a == 4)) (argsN a) := fun ⟨hb, hn⟩ => by
    refine next ?_
    simp only [impl_argsOf.j0, if_neg hb]
    by_cases h8 : a = 8
    · subst h8; refine next ?_; exact ev_some rfl
    · simp only [if_neg h8]
      refine next ?_
      by_cases h9 : a = 9
      · subst h9; exact ev_some rfl
      · simp only [impl_argsOf.j1, show (a == 9) = false from by simpa using h9, Bool.false_eq_true, if_false]
        unfold argsN
        by_cases h5 : a = 5
        · subst h5; exact ev_some rfl
        · by_cases h6 : a = 6
          · subst h6; exact ev_some rfl
          · by_cases h7 : a = 7
            · subst h7; exact ev_some rfl
            · simp only [if_neg h5, if_neg h6, if_neg h7]
              exact ev_some (by rw [if_neg hn, if_neg (by omega), if_neg (by omega)])
  by_cases h1 : a = 1
  · subst h1; refine next ?_; exact ev_some rfl
  · by_cases h2 : a = 2
    · subst h2; refine next ?_; exact ev_some rfl
    · by_cases h3 : a = 3
      · subst h3; refine next ?_; exact ev_some rfl
      · simp only [if_neg h1, if_neg h2, if_neg h3]
        by_cases h4 : a = 4
        · subst h4; refine next ?_; exact ev_some rfl
        · exact rest ⟨by simpa using h4, by omega⟩
def aft (cur : Int) (n : Nat) : Int := if 0 ≤ cur ∧ (n : Int) ≤ cur then cur - n else -1
theorem left_loop (a : Int) (s : ByteArray) {l : List TI} (hl : l.length ≤ 1048576) (ih : ∀ y ∈ l, ∀ left : Int, 0 ≤ left → left ≤ 16 → Ev (fun k => spec_l3Left.f k y.f0 y.f1 y.f2 left) (aft left (nd y))) :
    ∀ (d i : Nat) (cur : Int), i + d = l.length → -1 ≤ cur → cur ≤ 16 → Ev (fun k => spec_l3Left.l0 k cur (i : Int) a s l) (aft cur (nds (l.drop i))) := by
  intro d
  induction d with
  | zero =>
    intro i cur h h1 h2
    refine next ?_
    simp only [spec_l3Left.l0, if_neg (show ¬ (i : Int) < (l.length : Int) by omega)]
    rw [List.drop_eq_nil_of_le (by omega)]
    exact ev_some (by unfold aft; rw [nds]; split <;> omega)
  | succ d ihd =>
    intro i cur h h1 h2
    have hi : i < l.length := by omega
    refine next ?_
    rw [nds_drop l i hi]
    have hp := nd_pos l[i]
    by_cases hc : cur ≥ 0
    · simp only [spec_l3Left.l0, if_pos (show (i : Int) < (l.length : Int) by omega), if_pos hc, if_pos (show (0 : Int) ≤ (i : Int) by omega), rdTI l i hi]
      refine Ev.bind (ih _ (List.getElem_mem hi) cur hc h2) ?_
      simp only [up1 (show i < 9223372036854775807 by omega)]
      refine ev_eq (ihd (i + 1) _ (by omega) (by unfold aft; split <;> omega) (by unfold aft; split <;> omega)) ?_
      unfold aft
      repeat' split
      all_goals omega
    · simp only [spec_l3Left.l0, if_pos (show (i : Int) < (l.length : Int) by omega), if_neg hc]
      exact ev_some (by unfold aft; rw [if_neg (by omega)]; omega)
theorem left_tree : ∀ x : TI, Thin x → ∀ left : Int, 0 ≤ left → left ≤ 16 → Ev (fun k => spec_l3Left.f k x.f0 x.f1 x.f2 left) (aft left (nd x)) := by
  refine TI.ind fun x ih hx left h0 h1 => ?_
  obtain ⟨_, hl, _, hc⟩ := hx
  refine next ?_
  simp only [spec_l3Left.f, w64 (show -9223372036854775808 ≤ left - 1 by omega) (by omega)]
  refine ev_eq (left_loop x.f0 x.f1 hl (fun y hy => ih y hy (hc y hy)) x.f2.length 0 (left - 1) (by omega) (by omega) (by omega)) ?_
  rw [List.drop_zero, nd_eq]
  unfold aft
  repeat' split
  all_goals omega
theorem depth_loop (a : Int) (s : ByteArray) {l : List TI} (hl : l.length ≤ 1048576) (hn : nds l ≤ 2000000) (ih : ∀ y ∈ l, Ev (fun k => spec_l3Depth.f k y.f0 y.f1 y.f2) (dp y : Int)) :
    ∀ (d i cur : Nat), i + d = l.length → cur ≤ 2000000 → Ev (fun k => spec_l3Depth.l0 k (cur : Int) (i : Int) a s l) ((max cur (dps (l.drop i)) + 1 : Nat) : Int) := by
  intro d
  induction d with
  | zero =>
    intro i cur h h1
    refine next ?_
    simp only [spec_l3Depth.l0, if_neg (show ¬ (i : Int) < (l.length : Int) by omega)]
    rw [List.drop_eq_nil_of_le (by omega), dps, w64 (by omega) (by omega)]
    exact ev_some (by omega)
  | succ d ihd =>
    intro i cur h h1
    have hi : i < l.length := by omega
    refine next ?_
    rw [dps_drop l i hi]
    simp only [spec_l3Depth.l0, if_pos (show (i : Int) < (l.length : Int) by omega), if_pos (show (0 : Int) ≤ (i : Int) by omega), rdTI l i hi]
    refine Ev.bind (ih _ (List.getElem_mem hi)) ?_
    have hd : dp l[i] ≤ 2000000 := by have := dp_nd l[i]; have := nd_mem (List.getElem_mem hi); omega
    have hm : spec_l1Max.f (cur : Int) (dp l[i] : Int) = some ((max cur (dp l[i]) : Nat) : Int) := by
      unfold spec_l1Max.f
      split
      · congr 1; omega
      · congr 1; omega
    simp only [hm, Option.bind_some, up1 (show i < 9223372036854775807 by omega)]
    refine ev_eq (ihd (i + 1) _ (by omega) (by omega)) ?_
    rw [Nat.max_assoc]
theorem depth_tree : ∀ x : TI, Thin x → nd x ≤ 2000000 → Ev (fun k => spec_l3Depth.f k x.f0 x.f1 x.f2) (dp x : Int) := by
  refine TI.ind fun x ih hx hn => ?_
  obtain ⟨_, hl, _, hc⟩ := hx
  rw [nd_eq] at hn
  refine next ?_
  simp only [spec_l3Depth.f]
  refine ev_eq (depth_loop x.f0 x.f1 hl (by omega) (fun y hy => ih y hy (hc y hy) (by have := nd_mem hy; omega)) x.f2.length 0 0 (by omega) (by omega)) ?_
  rw [List.drop_zero, dp_eq]
  omega
theorem all_loop (x : TI) (hs : x.f1.size ≤ 1048576) (hl : x.f2.length ≤ 1048576) (ih : ∀ y ∈ x.f2, Ev (fun k => spec_l3All.f k y.f0 y.f1 y.f2) (al y)) :
    ∀ (d i : Nat), i + d = x.f2.length → Ev (fun k => spec_l3All.l0 k (i : Int) x.f0 x.f1 x.f2) (als (x.f2.drop i) && shp x) := by
  intro d
  induction d with
  | zero =>
    intro i h
    refine next ?_
    simp only [spec_l3All.l0, if_neg (show ¬ (i : Int) < (x.f2.length : Int) by omega)]
    rw [List.drop_eq_nil_of_le (by omega), als, Bool.true_and]
    unfold shp
    by_cases h3 : x.f0 = 3
    · simp only [if_pos h3]
      have ea : argsN x.f0 = 0 := by rw [h3]; rfl
      rw [ea]
      by_cases h1 : (x.f1.size : Int) = 1
      · simp only [if_pos h1]
        refine Ev.bind (spec_word x.f1 (by omega)) ?_
        have h1' : x.f1.size = 1 := by omega
        cases word x.f1 with
        | false => simp only [Bool.false_eq_true, if_false]; exact ev_some (by simp)
        | true =>
          simp only [if_true]
          refine ev_some ?_
          rw [decide_eq_true h1', Bool.and_true, Bool.and_true]
          rfl
      · simp only [if_neg h1]
        exact ev_some (by rw [decide_eq_false (show ¬ x.f1.size = 1 by omega)]; simp)
    · simp only [if_neg h3, spec_l1In.f]
      by_cases h1 : 1 ≤ x.f0 ∧ x.f0 ≤ 9
      · have ein : Ev (fun k => spec_l1In.f x.f0 1 9) true := by
          simp only [spec_l1In.f]
          first
            | (rw [if_pos h1.1]; exact ev_some (by simp; omega))
            | (simp only [if_pos (show x.f0 ≥ 1 from h1.1)]; exact ev_some (by simp; omega))
        refine Ev.bind ein ?_
        simp only [if_true]
        by_cases he : x.f1.toList = ([] : List UInt8)
        · simp only [if_pos he]
          refine Ev.bind (argsN_spec x.f0) ?_
          refine ev_some ?_
          have he' : x.f1 = (⟨#[]⟩ : ByteArray) := toList_iff.mp (he.trans empty_list.symm)
          rw [decide_eq_true he', Bool.and_true]
          have : argsN x.f0 = (if 5 ≤ x.f0 ∧ x.f0 ≤ 7 then 2 else if x.f0 = 8 ∨ x.f0 = 9 then 1 else 0) := by
            unfold argsN
            repeat' split
            all_goals omega
          rw [this]
          rfl
        · simp only [if_neg he]
          refine ev_some ?_
          rw [decide_eq_false (show ¬ x.f1 = (⟨#[]⟩ : ByteArray) from fun e => he (by rw [e]; exact empty_list)), Bool.and_false]
      · have ein : Ev (fun k => spec_l1In.f x.f0 1 9) false := by
          simp only [spec_l1In.f]
          by_cases hb : x.f0 ≥ 1
          · simp only [if_pos hb]; exact ev_some (by simp; omega)
          · simp only [if_neg hb]; exact ev_some rfl
        refine Ev.bind ein ?_
        simp only [Bool.false_eq_true, if_false]
        refine ev_some ?_
        have : argsN x.f0 = -1 := by
          unfold argsN
          rw [if_neg (by omega), if_neg (by omega), if_neg (by omega)]
        rw [this, decide_eq_false (by omega)]
        rfl
  | succ d ihd =>
    intro i h
    have hi : i < x.f2.length := by omega
    refine next ?_
    rw [als_drop x.f2 i hi]
    simp only [spec_l3All.l0, if_pos (show (i : Int) < (x.f2.length : Int) by omega), if_pos (show (0 : Int) ≤ (i : Int) by omega), rdTI x.f2 i hi]
    refine Ev.bind (ih _ (List.getElem_mem hi)) ?_
    cases al x.f2[i] with
    | false => simp only [Bool.false_eq_true, if_false]; exact ev_some (by simp)
    | true =>
      simp only [if_true, up1 (show i < 9223372036854775807 by omega), Bool.true_and]
      exact ihd (i + 1) (by omega)
theorem all_tree : ∀ x : TI, Thin x → Ev (fun k => spec_l3All.f k x.f0 x.f1 x.f2) (al x) := by
  refine TI.ind fun x ih hx => ?_
  obtain ⟨_, hl, hs, hc⟩ := hx
  refine next ?_
  simp only [spec_l3All.f]
  refine ev_eq (all_loop x hs hl (fun y hy => ih y hy (hc y hy)) x.f2.length 0 (by omega)) ?_
  rw [List.drop_zero, al_eq]
def validR (x : TI) : Bool := decide (nd x ≤ 16) && decide (dp x ≤ 6) && al x
theorem spec_validR (x : TI) (hx : Thin x) (hn : nd x ≤ 2000000) : Ev (fun k => spec_IsValidRegex.f k x.f0 x.f1 x.f2) (validR x) := by
  simp only [spec_IsValidRegex.f]
  refine Ev.bind (left_tree x hx 16 (by omega) (by omega)) ?_
  unfold validR aft
  by_cases h1 : nd x ≤ 16
  · simp only [if_pos (show (0 : Int) ≤ 16 ∧ (nd x : Int) ≤ 16 by omega), if_pos (show (16 : Int) - (nd x : Int) ≥ 0 by omega)]
    refine Ev.bind (depth_tree x hx hn) ?_
    rw [decide_eq_true h1, Bool.true_and]
    by_cases h2 : dp x ≤ 6
    · simp only [if_pos (show (dp x : Int) ≤ 6 by omega)]
      refine Ev.bind (all_tree x hx) ?_
      exact ev_some (by rw [decide_eq_true h2, Bool.true_and])
    · simp only [if_neg (show ¬ (dp x : Int) ≤ 6 by omega)]
      exact ev_some (by rw [decide_eq_false h2, Bool.false_and])
  · simp only [if_neg (show ¬ ((0 : Int) ≤ 16 ∧ (nd x : Int) ≤ 16) by omega), if_neg (show ¬ (-1 : Int) ≥ 0 by omega)]
    exact ev_some (by rw [decide_eq_false h1]; rfl)
def nv (d : Int) (x : TI) : Int := if al x = true ∧ (dp x : Int) ≤ d then (if nd x ≤ 17 then (nd x : Int) else 17) else 17
def nvs (d : Int) : List TI → Int
  | [] => 0
  | x :: l => nv d x + nvs d l
theorem nv_bound (d : Int) (x : TI) : 1 ≤ nv d x ∧ nv d x ≤ 17 := by
  have := nd_pos x
  unfold nv
  repeat' split
  all_goals omega
theorem nvs_bound (d : Int) (l : List TI) : (l.length : Int) ≤ nvs d l ∧ nvs d l ≤ 17 * l.length := by
  induction l with
  | nil => exact ⟨Int.le_refl _, Int.le_refl _⟩
  | cons x l ih =>
    have := nv_bound d x
    rw [nvs, List.length_cons]
    omega
theorem nvs_good (d : Int) (hd : 0 ≤ d) (l : List TI) : (als l = true ∧ (dps l : Int) ≤ d → ∀ s : Int, 1 ≤ s → mn (s + nvs d l) 17 = mn (s + nds l) 17) ∧ (¬ (als l = true ∧ (dps l : Int) ≤ d) → 17 ≤ nvs d l) := by
  induction l with
  | nil => exact ⟨fun _ s _ => rfl, fun h => absurd ⟨rfl, by rw [dps]; exact hd⟩ h⟩
  | cons x l ih =>
    have hb := nv_bound d x
    have hbs := nvs_bound d l
    have hp := nd_pos x
    have hx : nv d x = if al x = true ∧ (dp x : Int) ≤ d then (if nd x ≤ 17 then (nd x : Int) else 17) else 17 := rfl
    rw [nvs, nds, als, dps]
    constructor
    · rintro ⟨h1, h2⟩ s hs
      rw [Bool.and_eq_true] at h1
      have i1 := ih.1 ⟨h1.2, by omega⟩ (s + nv d x) (by omega)
      rw [if_pos ⟨h1.1, by omega⟩] at hx
      rw [← Int.add_assoc, i1]
      unfold mn
      rw [hx]
      repeat' split
      all_goals omega
    · intro h
      by_cases hg : al x = true ∧ (dp x : Int) ≤ d
      · have := ih.2 (fun hc => h ⟨by rw [hg.1, hc.1]; rfl, by omega⟩)
        omega
      · rw [if_neg hg] at hx
        omega
theorem nvs_sum (d : Int) (hd : 0 ≤ d) (l : List TI) : mn (1 + nvs d l) 17 = if als l = true ∧ (dps l : Int) ≤ d then (if 1 + nds l ≤ 17 then ((1 + nds l : Nat) : Int) else 17) else 17 := by
  obtain ⟨h1, h2⟩ := nvs_good d hd l
  by_cases hg : als l = true ∧ (dps l : Int) ≤ d
  · rw [if_pos hg, h1 hg 1 (by omega)]
    unfold mn
    repeat' split
    all_goals omega
  · rw [if_neg hg]
    have := h2 hg
    unfold mn
    split <;> omega
theorem nodes_loop (d : Int) (hd : 1 ≤ d) (hd6 : d ≤ 6) {l : List TI} (hl : l.length ≤ 2) (ih : ∀ y ∈ l, Ev (fun k => impl_nodesOf.f k y.f0 y.f1 y.f2 (d - 1)) (nv (d - 1) y)) :
    ∀ (e i : Nat) (s : Int), i + e = l.length → 0 ≤ s → s ≤ 1 + 17 * (i : Int) → Ev (fun k => impl_nodesOf.l0 k d s l (l.length : Int) (i : Int)) (mn (s + nvs (d - 1) (l.drop i)) 17) := by
  intro e
  induction e with
  | zero =>
    intro i s h h0 h1
    refine next ?_
    simp only [impl_nodesOf.l0, if_neg (show ¬ (i : Int) < (l.length : Int) by omega)]
    rw [List.drop_eq_nil_of_le (by omega), nvs, Int.add_zero]
    exact Ev.now _
  | succ e ihe =>
    intro i s h h0 h1
    have hi : i < l.length := by omega
    refine next ?_
    have hb := nv_bound (d - 1) l[i]
    simp only [impl_nodesOf.l0, if_pos (show (i : Int) < (l.length : Int) by omega), if_pos (show (0 : Int) ≤ (i : Int) by omega), rdTI l i hi, w64 (show -9223372036854775808 ≤ d - 1 by omega) (by omega)]
    refine Ev.bind (ih _ (List.getElem_mem hi)) ?_
    simp only [up1 (show i < 9223372036854775807 by omega), w64 (show -9223372036854775808 ≤ s + nv (d - 1) l[i] by omega) (by omega)]
    refine ev_eq (ihe (i + 1) _ (by omega) (by omega) (by omega)) ?_
    rw [List.drop_eq_getElem_cons hi, nvs, Int.add_assoc]
theorem nodes_tree : ∀ x : TI, Thin x → ∀ d : Int, 0 ≤ d → d ≤ 6 → Ev (fun k => impl_nodesOf.f k x.f0 x.f1 x.f2 d) (nv d x) := by
  refine TI.ind fun x ih hx d h0 h1 => ?_
  obtain ⟨_, hl, hs, hc⟩ := hx
  have hdp := dp_pos x
  refine next ?_
  by_cases hd0 : d = 0
  · subst hd0
    simp only [impl_nodesOf.f, if_true]
    refine next ?_
    simp only [impl_nodesOf.j0, if_true]
    exact ev_some (by unfold nv; rw [if_neg (by omega)])
  · simp only [impl_nodesOf.f, if_neg hd0]
    refine Ev.bind (argsN_impl x.f0) ?_
    refine next ?_
    have hbad : shp x = false → (17 : Int) = nv d x := fun hb => by
      unfold nv
      rw [if_neg]
      rintro ⟨ha, _⟩
      rw [al_eq, hb, Bool.and_false] at ha
      cases ha
    by_cases hlen : (x.f2.length : Int) = argsN x.f0
    · have hl2 : x.f2.length ≤ 2 := by
        have : argsN x.f0 ≤ 2 := by unfold argsN; repeat' split <;> omega
        omega
      have hj1 : shp x = true → Ev (fun k => impl_nodesOf.j1 k d x.f0 x.f1 x.f2) (nv d x) := fun hsh => by
        refine next ?_
        simp only [impl_nodesOf.j1]
        refine ev_eq (nodes_loop d (by omega) h1 hl2 (fun y hy => ih y hy (hc y hy) (d - 1) (by omega) (by omega)) x.f2.length 0 1 (by omega) (by omega) (by omega)) ?_
        rw [List.drop_zero, nvs_sum (d - 1) (by omega)]
        unfold nv
        rw [al_eq, hsh, Bool.and_true, nd_eq]
        have : (dps x.f2 : Int) ≤ d - 1 ↔ (dp x : Int) ≤ d := by rw [dp_eq]; omega
        simp only [this]
      simp only [impl_nodesOf.j0, show ((x.f2.length : Int) != argsN x.f0) = false from by rw [bne_eq_false_iff_eq]; exact hlen, Bool.false_eq_true, if_false]
      by_cases h3 : x.f0 = 3
      · simp only [if_pos h3]
        by_cases hz : (x.f1.size : Int) = 1
        · simp only [if_pos hz]
          refine Ev.bind (impl_word x.f1 (by omega)) ?_
          cases hw : word x.f1 with
          | false =>
            simp only [Bool.false_eq_true, if_false]
            exact ev_some (hbad (by unfold shp; rw [if_pos h3, hw]; simp))
          | true =>
            simp only [if_true]
            exact hj1 (by unfold shp; rw [if_pos h3, hw, decide_eq_true hlen, decide_eq_true (show x.f1.size = 1 by omega)]; rfl)
        · simp only [if_neg hz]
          exact ev_some (hbad (by unfold shp; rw [if_pos h3, decide_eq_false (show ¬ x.f1.size = 1 by omega)]; simp))
      · simp only [if_neg h3]
        by_cases he : x.f1.toList = ([] : List UInt8)
        · simp only [if_pos he]
          exact hj1 (by unfold shp; rw [if_neg h3, decide_eq_true hlen, decide_eq_true (show x.f1 = (⟨#[]⟩ : ByteArray) from toList_iff.mp (he.trans empty_list.symm))]; rfl)
        · simp only [if_neg he]
          exact ev_some (hbad (by unfold shp; rw [if_neg h3, decide_eq_false (show ¬ x.f1 = (⟨#[]⟩ : ByteArray) from fun e => he (by rw [e]; exact empty_list))]; simp))
    · simp only [impl_nodesOf.j0, show ((x.f2.length : Int) != argsN x.f0) = true from by rw [bne_iff_ne]; exact hlen, if_true]
      exact ev_some (hbad (by unfold shp; rw [decide_eq_false hlen]; rfl))
theorem impl_validR (x : TI) (hx : Thin x) : Ev (fun k => impl_IsValidRegex.f k x.f0 x.f1 x.f2) (validR x) := by
  simp only [impl_IsValidRegex.f]
  refine Ev.bind (nodes_tree x hx 6 (by omega) (by omega)) ?_
  refine ev_some ?_
  unfold validR nv
  have e6 : ((dp x : Int) ≤ 6) ↔ dp x ≤ 6 := by omega
  by_cases ha : al x = true
  · by_cases hd : dp x ≤ 6
    · rw [if_pos ⟨ha, by omega⟩, ha, decide_eq_true hd, Bool.and_true, Bool.and_true]
      by_cases hn : nd x ≤ 16
      · rw [decide_eq_true hn]
        simp only [decide_eq_true_eq]
        split <;> omega
      · rw [decide_eq_false hn]
        simp only [decide_eq_false_iff_not]
        split <;> omega
    · rw [if_neg (by omega), decide_eq_false hd, Bool.and_false, Bool.false_and]
      rfl
  · simp only [Bool.not_eq_true] at ha
    rw [if_neg (by rw [ha]; simp), ha, Bool.and_false]
    rfl
end Go.Proofs.Ytldgkgdgcfllmaa.Pl
end
