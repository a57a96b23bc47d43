/- Texts of the proof of FnExactParseRegex, put together. No condition. -/
import Derived.Test.YtldgkgdgcfllmaaQFnExactParseRegex2
import Derived.Test.YtldgkgdgcfllmaaQFnExactParseRegex8
section
namespace Go.Proofs.Ytldgkgdgcfllmaa
open Go.RowKit Go.Shelf Go.Proofs.Ytldgkgdgcfllmaa.P Go.Proofs.Ytldgkgdgcfllmaa.Pl Go.Proofs.Ytldgkgdgcfllmaa.Rg Go.Proofs.YtldgkgdgcfllmaaW.PrintWords Go.Proofs.YtldgkgdgcfllmaaW.PrintLast Go.Proofs.YtldgkgdgcfllmaaW.PrintMore
set_option linter.unusedVariables false
set_option linter.unusedSimpArgs false
section
variable {s : ByteArray} {b : Bool} {n m : Nat} {c : Int}
theorem rd_leaf {x : Rx} (h : TK s b n m c true) (hx : ∀ t, lf false (c :: t) = some (x, t)) : RdR (lf b ((bytesOf s).drop n)) s m b (tr x) := by
  obtain ⟨hb, hm, t, h1, h2⟩ := h.yes
  subst hb
  refine ⟨h.le, ?_⟩
  rw [h1, hx]
  exact ⟨rfl, rfl, h2⟩
theorem rd_none {q : Tr} (hn : n ≤ s.size) (h : b = false → ∀ t, (bytesOf s).drop n ≠ 48 :: t ∧ (bytesOf s).drop n ≠ 49 :: t ∧ (bytesOf s).drop n ≠ 46 :: t ∧ ∀ j : Nat, j < 3 → (bytesOf s).drop n ≠ (97 + j : Int) :: t) : RdR (lf b ((bytesOf s).drop n)) s n true q := by
  refine ⟨hn, ?_⟩
  have e : lf b ((bytesOf s).drop n) = none := by
    cases b with
    | true => rfl
    | false =>
      replace h := h rfl
      generalize (bytesOf s).drop n = l at h
      cases l with
      | nil => rfl
      | cons c t =>
        obtain ⟨h1, h2, h3, h4⟩ := h t
        have a0 := h4 0 (by omega)
        have a1 := h4 1 (by omega)
        have a2 := h4 2 (by omega)
        simp only [lf]
        rw [if_neg (by decide), if_neg (fun e => h1 (by rw [e])), if_neg (fun e => h2 (by rw [e])), if_neg (fun e => h3 (by rw [e])), if_neg]
        rintro (e | e | e)
        · exact a0 (by rw [e]; rfl)
        · exact a1 (by rw [e]; rfl)
        · exact a2 (by rw [e]; rfl)
  rw [e]
end
set_option maxHeartbeats 40000000 in
set_option maxRecDepth 100000 in
theorem leafCall {w0 w : World} {g n : Nat} {s : ByteArray} {b : Bool} {p : Pc} (H : Sl w0 w [rbox g s n b, p]) (hn : n ≤ s.size) (hs : s.size ≤ 140737488351232) :
    Calls Try.prog 72 #[.pointer (some ⟨g, 0, none⟩)] w fun e w' => ∃ q m b', e = .returned (.agg #[.int .i64 q.f0, .string q.f1, .slice none 0 0]) ∧ q.f2 = [] ∧ Sl w0 w' [rbox g s m b', p] ∧ RdR (lf b ((bytesOf s).drop n)) s m b' q := by
  have HS := am_ hs
  have HN := am_ hn
  have hu := Try.underlying29
  have F0 := H.f3 0
  clear hs hn
  go_enter Try.func72, Try.ntmps72
  go_wp2_with (first | (refine nw_ H 2 zt 29 rfl ?_; clear H F0; intro g2 w1 H; have F0 := H.f3 0; have F2 := H.f3 2) | (refine p3_ H 2 2 rfl ?_; clear H F0 F2; intro w1 H) |
    ((with_reducible refine gate_dst (N := 6) rfl ?_); refine gL_ (some 6) Try.func71 #[.pointer (some ⟨g, 0, none⟩), .string ⟨#[48]⟩] ?_; refine (takeCall H 0 rfl HN.out HS.out 48).mono ?_; rintro e w2 ⟨r1, m1, rfl, H2, HT1⟩; clear H F0 F2; have H := H2; clear H2; replace HT1 := am_ HT1; have F0 := H.f3 0; have F2 := H.f3 2; refine ⟨_, rfl, ?_⟩) |
    ((with_reducible refine gate_dst (N := 10) rfl ?_); refine gL_ (some 10) Try.func71 #[.pointer (some ⟨g, 0, none⟩), .string ⟨#[49]⟩] ?_; refine (takeCall H 0 rfl HT1.out.le HS.out 49).mono ?_; rintro e w2 ⟨r2, m2, rfl, H2, HT2⟩; clear H F0 F2; have H := H2; clear H2; replace HT2 := am_ HT2; have F0 := H.f3 0; have F2 := H.f3 2; refine ⟨_, rfl, ?_⟩) |
    ((with_reducible refine gate_dst (N := 14) rfl ?_); refine gL_ (some 14) Try.func71 #[.pointer (some ⟨g, 0, none⟩), .string ⟨#[46]⟩] ?_; refine (takeCall H 0 rfl HT2.out.le HS.out 46).mono ?_; rintro e w2 ⟨r3, m3, rfl, H2, HT3⟩; clear H F0 F2; have H := H2; clear H2; replace HT3 := am_ HT3; have F0 := H.f3 0; have F2 := H.f3 2; refine ⟨_, rfl, ?_⟩))
  · refine bodyPost_ret (results_cell_row rfl _ _ g2 29 _ (0, 0) _ rfl (H.blk 2 rfl) hu rfl (by kernel_rfl)) rfl ?_
    subst_vars
    exact ⟨tr .none, _, _, rfl, rfl, H.pre 2, rd_leaf HT1.out (fun _ => rfl)⟩
  · refine bodyPost_ret (results_cell_row rfl _ _ g2 29 _ (0, 0) _ rfl (H.blk 2 rfl) hu rfl (by kernel_rfl)) rfl ?_
    subst_vars
    obtain ⟨rfl, -⟩ := HT1.out.no
    exact ⟨tr .empty, _, _, rfl, rfl, H.pre 2, rd_leaf HT2.out (fun _ => rfl)⟩
  · refine bodyPost_ret (results_cell_row rfl _ _ g2 29 _ (0, 0) _ rfl (H.blk 2 rfl) hu rfl (by kernel_rfl)) rfl ?_
    subst_vars
    obtain ⟨rfl, -⟩ := HT1.out.no
    obtain ⟨rfl, -⟩ := HT2.out.no
    exact ⟨tr .any, _, _, rfl, rfl, H.pre 2, rd_leaf HT3.out (fun _ => rfl)⟩
  · subst_vars
    obtain ⟨rfl, z1⟩ := HT1.out.no
    obtain ⟨rfl, z2⟩ := HT2.out.no
    obtain ⟨rfl, z3⟩ := HT3.out.no
    have HZ := am_ (And.intro z1 (And.intro z2 z3))
    clear z1 z2 z3 HT1 HT2 HT3
    replace H := H.nn
    go_loopg [3] 3 (fun gg v3 w' => ∃ (i : Nat), v3 = .int .i64 (i : Int) ∧ Aside0 (i ≤ 3 ∧ 3 ≤ gg + i) ∧ Aside0 (b = false → ∀ j : Nat, j < i → ∀ t, (bytesOf s).drop m3 ≠ (97 + j : Int) :: t) ∧ Sl w0 w' [rbox g s m3 b, p, bx g2 zt 29])
    case atStart => exact ⟨0, rfl, ⟨by omega, by omega⟩, ⟨fun _ j hj => absurd hj (by omega)⟩, H⟩
    case round =>
      clear H F0 F2
      obtain ⟨i, rfl, HI, HJ, H⟩ := hrel
      by_cases hi : i < 3
      · obtain ⟨g1_, rfl⟩ : ∃ q, gk = q + 1 := ⟨gk - 1, by have := HI.out; omega⟩
        obtain ⟨c, hc, hc2⟩ : ∃ c : UInt8, (⟨#[97, 98, 99]⟩ : ByteArray).extract i (i + 1) = ⟨#[c]⟩ ∧ (c.toNat : Int) = 97 + i := by
          rcases (by omega : i = 0 ∨ i = 1 ∨ i = 2) with rfl | rfl | rfl
          · exact ⟨97, rfl, rfl⟩
          · exact ⟨98, rfl, rfl⟩
          · exact ⟨99, rfl, rfl⟩
        have p1 : ((0 : Int) ≤ (i : Int)) = True := eq_true (by omega)
        have p2 : ((i : Int) < 3) = True := eq_true (by omega)
        have p3 := up1 (i := i) (by omega)
        have p4 : ((i : Int) ≤ (i : Int) + 1) = True := eq_true (by omega)
        have p5 : ((i : Int) + 1 ≤ 3) = True := eq_true (by omega)
        have p6 : ((0 : Int) ≤ (i : Int) + 1) = True := eq_true (by omega)
        have p7 : (i + 1 ≤ 3) = True := eq_true (by omega)
        have p8 : (⟨#[97, 98, 99]⟩ : ByteArray).size = 3 := rfl
        have F0 := H.f3 0
        have F2 := H.f3 2
        go_wp2_with (first | ((with_reducible refine gate_dst (N := 25) rfl ?_); refine gL_ (some 25) Try.func71 #[.pointer (some ⟨g, 0, none⟩), .string ⟨#[c]⟩] ?_; refine (takeCall H 0 rfl HN.out HS.out c).mono ?_; rintro e w2 ⟨r4, m4, rfl, H2, HT4⟩; clear H F0 F2; have H := H2; clear H2; replace HT4 := am_ HT4; have F2 := H.f3 2; refine ⟨_, rfl, ?_⟩) | (refine p3_ H 2 2 rfl ?_; clear H F2; intro w1 H))
        · refine bodyPost_ret (results_cell_row rfl _ _ g2 29 _ (0, 0) _ rfl (H.blk 2 rfl) hu rfl (by kernel_rfl)) rfl ?_
          subst_vars
          refine ⟨tr (.letter (one1 (97 + (i : Int)))), _, _, ?_, rfl, H.pre 2, ?_⟩
          · show Ending.returned (.agg #[.int .i64 3, .string _, _]) = Ending.returned (.agg #[.int .i64 3, .string (one1 (97 + (i : Int))), _])
            have : one1 (97 + (i : Int)) = ⟨#[c]⟩ := by rw [← hc2]; simp [one1]
            rw [this]
          · have ht := HT4.out
            rw [hc2] at ht
            refine rd_leaf ht (fun t => ?_)
            rcases (by omega : i = 0 ∨ i = 1 ∨ i = 2) with rfl | rfl | rfl <;> rfl
        · go_roundg g1_
          case measure => omega
          case rel =>
            subst_vars
            have ht := HT4.out
            rw [hc2] at ht
            obtain ⟨rfl, z⟩ := ht.no
            exact ⟨i + 1, rfl, ⟨by omega, by have := HI.out; omega⟩, ⟨fun hb j hj t => by
              by_cases e : j = i
              · subst e; exact z hb t
              · exact HJ.out hb j (by omega) t⟩, H⟩
      · have e : i = 3 := by have := HI.out; omega
        subst e
        have F0 := H.f3 0
        have F2 := H.f3 2
        go_wp2_with (first | (refine p1_ H 33 0 2 rfl ?_; clear H F0 F2; intro w1 H; have F2 := H.f3 2) | (refine p3_ H 2 2 rfl ?_; clear H F2; intro w1 H))
        refine bodyPost_ret (results_cell_row rfl _ _ g2 29 _ (0, 0) _ rfl (H.blk 2 rfl) hu rfl (by kernel_rfl)) rfl ?_
        refine ⟨⟨0, ⟨#[]⟩, []⟩, _, _, rfl, rfl, H.pre 2, rd_none HN.out (fun hb t => ⟨HZ.out.1 hb t, HZ.out.2.1 hb t, HZ.out.2.2 hb t, fun j hj => HJ.out hb j hj t⟩)⟩
end Go.Proofs.Ytldgkgdgcfllmaa
end
section
namespace Go.Proofs.Ytldgkgdgcfllmaa
open Go.RowKit Go.Shelf Go.Proofs.Ytldgkgdgcfllmaa.P Go.Proofs.Ytldgkgdgcfllmaa.Pl Go.Proofs.Ytldgkgdgcfllmaa.Rg Go.Proofs.YtldgkgdgcfllmaaW.PrintWords Go.Proofs.YtldgkgdgcfllmaaW.PrintLast Go.Proofs.YtldgkgdgcfllmaaW.PrintMore
set_option linter.unusedVariables false
set_option linter.unusedSimpArgs false
section
variable {s : ByteArray} {n m k k1 k2 m4 m5 m8 d : Nat} {b b1 b2 r8 : Bool} {q q1 q2 : Tr}
theorem RdR.tail {x : Option (Rx × List Int)} {f : Rx → Rx} {q' : Tr} (hq : RdR x s k b q) (hf : ∀ y, q = tr y → q' = tr (f y)) : RdR (x.map fun x => (f x.1, x.2)) s k b q' := by
  refine ⟨hq.le, ?_⟩
  have h := hq.ok
  cases x with
  | none => exact h
  | some x => exact ⟨h.1, hf _ h.2.1, h.2.2⟩
theorem rd_star (h : TK s false n m 42 true) (hq : RdR (pN d ((bytesOf s).drop m)) s k b q) : RdR (pN (d + 1) ((bytesOf s).drop n)) s k b ⟨8, ⟨#[]⟩, [q]⟩ := by
  obtain ⟨-, hm, t, h1, h2⟩ := h.yes
  rw [h2] at hq
  have e : pN (d + 1) (42 :: t) = (pN d t).map fun x => (.star x.1, x.2) := by simp [pN]
  rw [h1, e]
  exact hq.tail (fun y e => by rw [e]; rfl)
theorem rd_not (h0 : TK s false n m4 42 false) (h : TK s false m4 m 33 true) (hq : RdR (pN d ((bytesOf s).drop m)) s k b q) : RdR (pN (d + 1) ((bytesOf s).drop n)) s k b ⟨9, ⟨#[]⟩, [q]⟩ := by
  obtain ⟨-, hm, t, h1, h2⟩ := h.yes
  rw [(h0.no).1] at h1
  rw [h2] at hq
  have e : pN (d + 1) (33 :: t) = (pN d t).map fun x => (.not x.1, x.2) := by simp [pN]
  rw [h1, e]
  exact hq.tail (fun y e => by rw [e]; rfl)
theorem rd_lf (h0 : TK s false n k1 42 false) (h1 : TK s false k1 k2 33 false) (h2 : TK s false k2 m 40 false) (hq : RdR (lf false ((bytesOf s).drop m)) s k b q) : RdR (pN (d + 1) ((bytesOf s).drop n)) s k b q := by
  obtain ⟨rfl, z0⟩ := h0.no
  obtain ⟨rfl, z1⟩ := h1.no
  obtain ⟨rfl, z2⟩ := h2.no
  have z0 := z0 rfl
  have z1 := z1 rfl
  have z2 := z2 rfl
  generalize (bytesOf s).drop m = l at *
  cases l with
  | nil => exact hq
  | cons c t =>
    have a0 : c ≠ 42 := fun e => z0 t (by rw [e])
    have a1 : c ≠ 33 := fun e => z1 t (by rw [e])
    have a2 : c ≠ 40 := fun e => z2 t (by rw [e])
    have e : pN (d + 1) (c :: t) = lf false (c :: t) := by simp [pN, lf, a0, a1, a2]
    rw [e]
    exact hq
theorem sg_or (h : TK s b1 k1 m4 124 true) : b1 = false → sgn ((bytesOf s).drop k1) = (6, (bytesOf s).drop m4) := fun _ => by
  obtain ⟨-, -, t, h1, h2⟩ := h.yes
  rw [h1, h2]
  rfl
theorem sg_and (h0 : TK s b1 k1 m4 124 false) (h : TK s b1 m4 m5 38 true) : b1 = false → sgn ((bytesOf s).drop k1) = (7, (bytesOf s).drop m5) := fun _ => by
  obtain ⟨-, -, t, h1, h2⟩ := h.yes
  rw [(h0.no).1] at h1
  rw [h1, h2]
  rfl
theorem sg_cat (h0 : TK s b1 k1 m4 124 false) (h : TK s b1 m4 m5 38 false) : b1 = false → sgn ((bytesOf s).drop k1) = (5, (bytesOf s).drop m5) := fun hb => by
  obtain ⟨rfl, z0⟩ := h0.no
  obtain ⟨rfl, z1⟩ := h.no
  have z0 := z0 hb
  have z1 := z1 hb
  generalize (bytesOf s).drop m5 = l at *
  cases l with
  | nil => rfl
  | cons c t =>
    have a0 : c ≠ 124 := fun e => z0 t (by rw [e])
    have a1 : c ≠ 38 := fun e => z1 t (by rw [e])
    simp [sgn, a0, a1]
theorem RdR.isNone {x : Option (Rx × List Int)} (h : RdR x s k true q) : x = none := by
  have := h.ok
  cases x with
  | none => rfl
  | some x => exact absurd this.1 (by decide)
theorem RdR.isSome {x : Option (Rx × List Int)} (h : RdR x s k false q) : ∃ y, x = some (y, (bytesOf s).drop k) ∧ q = tr y := by
  have := h.ok
  cases x with
  | none => exact Bool.noConfusion (show false = true from this)
  | some x => exact ⟨x.1, by rw [this.2.2], this.2.1⟩
theorem bin_eq (t : List Int) : pN (d + 1) (40 :: t) = (pN d t).bind fun x => (pN d (sgn x.2).2).bind fun y => match y.2 with
      | c :: r => if c = 41 then some (op2 (sgn x.2).1 x.1 y.1, r) else none
      | [] => none := by first | (simp [pN]; done) | (simp [pN]; rfl)
theorem rd_bad (hl : TK s false n k 42 false) (hl2 : TK s false k k2 33 false) (h : TK s false k2 m 40 true) (hq1 : RdR (pN d ((bytesOf s).drop m)) s k1 b1 q1) {kd : Int} (hs : b1 = false → sgn ((bytesOf s).drop k1) = (kd, (bytesOf s).drop m5))
    (hq2 : RdR (if b1 = true then none else pN d ((bytesOf s).drop m5)) s m8 true q2) : RdR (pN (d + 1) ((bytesOf s).drop n)) s m8 true q := by
  obtain ⟨-, -, t, h1, h2⟩ := h.yes
  rw [(hl2.no).1, (hl.no).1] at h1
  rw [h2] at hq1
  refine ⟨hq2.le, ?_⟩
  have e : pN (d + 1) (40 :: t) = none := by
    rw [bin_eq]
    cases b1 with
    | true => rw [hq1.isNone]; rfl
    | false =>
      obtain ⟨y, e1, -⟩ := hq1.isSome
      rw [e1]
      show (pN d (sgn ((bytesOf s).drop k1)).2).bind _ = none
      rw [hs rfl]
      have := hq2.isNone
      rw [if_neg (by decide)] at this
      show (pN d ((bytesOf s).drop m5)).bind _ = none
      rw [this]
      rfl
  rw [h1, e]
theorem rd_bin (hl : TK s false n k 42 false) (hl2 : TK s false k k2 33 false) (h : TK s false k2 m 40 true) (hq1 : RdR (pN d ((bytesOf s).drop m)) s k1 b1 q1) {kd : Int} (hkd : kd = 5 ∨ kd = 6 ∨ kd = 7) (hs : b1 = false → sgn ((bytesOf s).drop k1) = (kd, (bytesOf s).drop m5))
    (hq2 : RdR (if b1 = true then none else pN d ((bytesOf s).drop m5)) s m4 false q2) (hc : TK s false m4 m8 41 r8) : RdR (pN (d + 1) ((bytesOf s).drop n)) s m8 (!r8) ⟨kd, ⟨#[]⟩, [q1, q2]⟩ := by
  obtain ⟨-, -, t, h1, h2⟩ := h.yes
  rw [(hl2.no).1, (hl.no).1] at h1
  rw [h2] at hq1
  refine ⟨hc.le, ?_⟩
  cases b1 with
  | true => rw [if_pos rfl] at hq2; exact Bool.noConfusion (show false = true from hq2.ok)
  | false =>
    obtain ⟨x, e1, rfl⟩ := hq1.isSome
    rw [if_neg (by decide)] at hq2
    obtain ⟨y, e2, rfl⟩ := hq2.isSome
    have e : pN (d + 1) (40 :: t) = match (bytesOf s).drop m4 with
        | c :: r => if c = 41 then some (op2 kd x y, r) else none
        | [] => none := by
      rw [bin_eq, e1]
      show (pN d (sgn ((bytesOf s).drop k1)).2).bind _ = _
      rw [hs rfl]
      show (pN d ((bytesOf s).drop m5)).bind _ = _
      rw [e2]
      rfl
    rw [h1, e]
    cases r8 with
    | true =>
      obtain ⟨-, -, t', g1, g2⟩ := hc.yes
      rw [g1]
      refine ⟨rfl, ?_, g2⟩
      rcases hkd with rfl | rfl | rfl <;> rfl
    | false =>
      have z := (hc.no).2 rfl
      generalize (bytesOf s).drop m4 = l at z
      cases l with
      | nil => rfl
      | cons c r =>
        have : c ≠ 41 := fun e => z r (by rw [e])
        simp [this]
end
end Go.Proofs.Ytldgkgdgcfllmaa
end
section
namespace Go.Proofs.Ytldgkgdgcfllmaa
open Go.RowKit Go.Shelf Go.Proofs.Ytldgkgdgcfllmaa.P Go.Proofs.Ytldgkgdgcfllmaa.Pl Go.Proofs.Ytldgkgdgcfllmaa.Rg Go.Proofs.YtldgkgdgcfllmaaW.PrintWords Go.Proofs.YtldgkgdgcfllmaaW.PrintLast Go.Proofs.YtldgkgdgcfllmaaW.PrintMore
set_option linter.unusedVariables false
set_option linter.unusedSimpArgs false
def NRes (res : Option (Rx × List Int)) (w0 : World) (g : Nat) (s : ByteArray) (p : Pc) (e : Ending) (w' : World) : Prop := ∃ q m b' v, e = .returned (.agg #[.int .i64 q.f0, .string q.f1, v]) ∧ Sl w0 w' [rbox g s m b', p, tre v q.f2] ∧ RdR res s m b' q
def NodeAt (d : Nat) (z : Int) : Prop := ∀ (w0 w : World) (g n : Nat) (s : ByteArray) (b : Bool) (p : Pc), Sl w0 w [rbox g s n b, p] → n ≤ s.size → s.size ≤ 140737488351232 → Calls Try.prog 47 #[.pointer (some ⟨g, 0, none⟩), .int .i64 z] w (NRes (if b = true then none else pN d ((bytesOf s).drop n)) w0 g s p)
set_option maxHeartbeats 40000000 in
set_option maxRecDepth 100000 in
theorem nodeBad {w0 w : World} {g n : Nat} {s : ByteArray} {b : Bool} {p : Pc} {z : Int} (H : Sl w0 w [rbox g s n b, p]) (hn : n ≤ s.size) (hs : s.size ≤ 140737488351232) (hb : b = true ∨ 6 < z) :
    Calls Try.prog 47 #[.pointer (some ⟨g, 0, none⟩), .int .i64 z] w (NRes none w0 g s p) := by
  have HS := am_ hs
  have HN := am_ hn
  have hu := Try.underlying29
  have F0 := H.f3 0
  clear hs hn
  cases b with
  | true =>
    clear hb
    go_enter Try.func47, Try.ntmps47
    go_wp2_with (first | ((with_reducible refine gate_dst (N := 4) rfl ?_); refine nw_ H 4 zt 29 rfl ?_; clear H; intro g4 w1 H; replace H := H.nn; (try clear F0); (try clear F2); (try clear F4); (try clear F6); have F0 := H.f3 0; have F2 := H.f3 2) | ((with_reducible refine gate_store (p := 18) rfl ?_); refine p1_ H 18 0 2 rfl ?_; clear H; intro w1 H; replace H := H.nn; (try clear F0); (try clear F2); (try clear F4); (try clear F6); have F0 := H.f3 0; have F2 := H.f3 2) | ((with_reducible refine gate_dst (N := 21) rfl ?_); refine gL_ (some 21) Try.func71 #[.pointer (some ⟨g, 0, none⟩), .string ⟨#[42]⟩] ?_; refine (takeCall H 0 rfl HN.out HS.out 42).mono ?_; rintro e w2 ⟨r1, m1, rfl, H2, HT1⟩; clear H; have H := H2.nn; clear H2; obtain ⟨rfl, rfl⟩ := HT1.bad; (try clear F0); (try clear F2); (try clear F4); (try clear F6); have F0 := H.f3 0; have F2 := H.f3 2; refine ⟨_, rfl, ?_⟩) | ((with_reducible refine gate_dst (N := 30) rfl ?_); refine gL_ (some 30) Try.func71 #[.pointer (some ⟨g, 0, none⟩), .string ⟨#[33]⟩] ?_; refine (takeCall H 0 rfl HN.out HS.out 33).mono ?_; rintro e w2 ⟨r2, m2, rfl, H2, HT2⟩; clear H; have H := H2.nn; clear H2; obtain ⟨rfl, rfl⟩ := HT2.bad; (try clear F0); (try clear F2); (try clear F4); (try clear F6); have F0 := H.f3 0; have F2 := H.f3 2; refine ⟨_, rfl, ?_⟩) | ((with_reducible refine gate_dst (N := 39) rfl ?_); refine gL_ (some 39) Try.func71 #[.pointer (some ⟨g, 0, none⟩), .string ⟨#[40]⟩] ?_; refine (takeCall H 0 rfl HN.out HS.out 40).mono ?_; rintro e w2 ⟨r3, m3, rfl, H2, HT3⟩; clear H; have H := H2.nn; clear H2; obtain ⟨rfl, rfl⟩ := HT3.bad; (try clear F0); (try clear F2); (try clear F4); (try clear F6); have F0 := H.f3 0; have F2 := H.f3 2; refine ⟨_, rfl, ?_⟩) | ((with_reducible refine gate_dst (N := 72) rfl ?_); refine gL_ (some 72) Try.func72 #[.pointer (some ⟨g, 0, none⟩)] ?_; refine (leafCall (H.box 0 rfl) HN.out HS.out).mono ?_; rintro e w2 ⟨q, k, b', rfl, hq, H2, HQ⟩; replace H2 := H2.unbox (Nat.succ_pos _); clear H; have H := H2.nn; clear H2; replace HQ := am_ (And.intro hq HQ); clear hq; (try clear F0); (try clear F2); (try clear F4); (try clear F6); have F0 := H.f3 0; have F2 := H.f3 2; refine ⟨_, rfl, ?_⟩) | ((with_reducible refine gate_store (p := 4) rfl ?_); refine p3_ H 4 2 rfl ?_; clear H; intro w1 H; replace H := H.nn; (try clear F0); (try clear F2); (try clear F4); (try clear F6); have F0 := H.f3 0; have F2 := H.f3 2))
    refine bodyPost_ret (results_cell_row rfl _ _ g4 29 _ (0, 0) _ rfl (H.blk 2 rfl) hu rfl (by kernel_rfl)) rfl ?_
    obtain ⟨h1, h2⟩ := HQ.out
    refine ⟨q, k, b', .slice none 0 0, rfl, ?_, h2⟩
    rw [h1]
    exact (sub_nil (H.pre 2) : Sl w0 _ [rbox g s k b', p, tre (.slice none 0 0) []])
  | false =>
    have hz : 6 < z := by simpa using hb
    have z1 : ((6 : Int) < z) = True := eq_true hz
    have z2 : decide (z > 6) = true := decide_eq_true hz
    have z3 : decide ((6 : Int) < z) = true := decide_eq_true hz
    clear hb hz
    go_enter Try.func47, Try.ntmps47
    go_wp2_with (first | ((with_reducible refine gate_dst (N := 4) rfl ?_); refine nw_ H 4 zt 29 rfl ?_; clear H; intro g4 w1 H; replace H := H.nn; (try clear F0); (try clear F2); (try clear F4); (try clear F6); have F0 := H.f3 0; have F2 := H.f3 2) | ((with_reducible refine gate_store (p := 18) rfl ?_); refine p1_ H 18 0 2 rfl ?_; clear H; intro w1 H; replace H := H.nn; (try clear F0); (try clear F2); (try clear F4); (try clear F6); have F0 := H.f3 0; have F2 := H.f3 2) | ((with_reducible refine gate_dst (N := 21) rfl ?_); refine gL_ (some 21) Try.func71 #[.pointer (some ⟨g, 0, none⟩), .string ⟨#[42]⟩] ?_; refine (takeCall H 0 rfl HN.out HS.out 42).mono ?_; rintro e w2 ⟨r1, m1, rfl, H2, HT1⟩; clear H; have H := H2.nn; clear H2; obtain ⟨rfl, rfl⟩ := HT1.bad; (try clear F0); (try clear F2); (try clear F4); (try clear F6); have F0 := H.f3 0; have F2 := H.f3 2; refine ⟨_, rfl, ?_⟩) | ((with_reducible refine gate_dst (N := 30) rfl ?_); refine gL_ (some 30) Try.func71 #[.pointer (some ⟨g, 0, none⟩), .string ⟨#[33]⟩] ?_; refine (takeCall H 0 rfl HN.out HS.out 33).mono ?_; rintro e w2 ⟨r2, m2, rfl, H2, HT2⟩; clear H; have H := H2.nn; clear H2; obtain ⟨rfl, rfl⟩ := HT2.bad; (try clear F0); (try clear F2); (try clear F4); (try clear F6); have F0 := H.f3 0; have F2 := H.f3 2; refine ⟨_, rfl, ?_⟩) | ((with_reducible refine gate_dst (N := 39) rfl ?_); refine gL_ (some 39) Try.func71 #[.pointer (some ⟨g, 0, none⟩), .string ⟨#[40]⟩] ?_; refine (takeCall H 0 rfl HN.out HS.out 40).mono ?_; rintro e w2 ⟨r3, m3, rfl, H2, HT3⟩; clear H; have H := H2.nn; clear H2; obtain ⟨rfl, rfl⟩ := HT3.bad; (try clear F0); (try clear F2); (try clear F4); (try clear F6); have F0 := H.f3 0; have F2 := H.f3 2; refine ⟨_, rfl, ?_⟩) | ((with_reducible refine gate_dst (N := 72) rfl ?_); refine gL_ (some 72) Try.func72 #[.pointer (some ⟨g, 0, none⟩)] ?_; refine (leafCall (H.box 0 rfl) HN.out HS.out).mono ?_; rintro e w2 ⟨q, k, b', rfl, hq, H2, HQ⟩; replace H2 := H2.unbox (Nat.succ_pos _); clear H; have H := H2.nn; clear H2; replace HQ := am_ (And.intro hq HQ); clear hq; (try clear F0); (try clear F2); (try clear F4); (try clear F6); have F0 := H.f3 0; have F2 := H.f3 2; refine ⟨_, rfl, ?_⟩) | ((with_reducible refine gate_store (p := 4) rfl ?_); refine p3_ H 4 2 rfl ?_; clear H; intro w1 H; replace H := H.nn; (try clear F0); (try clear F2); (try clear F4); (try clear F6); have F0 := H.f3 0; have F2 := H.f3 2))
    refine bodyPost_ret (results_cell_row rfl _ _ g4 29 _ (0, 0) _ rfl (H.blk 2 rfl) hu rfl (by kernel_rfl)) rfl ?_
    obtain ⟨h1, h2⟩ := HQ.out
    refine ⟨q, k, b', .slice none 0 0, rfl, ?_, h2⟩
    rw [h1]
    exact (sub_nil (H.pre 2) : Sl w0 _ [rbox g s k b', p, tre (.slice none 0 0) []])
set_option maxHeartbeats 40000000 in
set_option maxRecDepth 100000 in
theorem nodeStep {w0 w : World} {g n : Nat} {s : ByteArray} {p : Pc} {z dd : Int} {d : Nat} (H : Sl w0 w [rbox g s n false, p]) (hn : n ≤ s.size) (hs : s.size ≤ 140737488351232) (hz : z ≤ 6) (hdd : wrap64 (z + 1) = dd) (ih : NodeAt d dd) :
    Calls Try.prog 47 #[.pointer (some ⟨g, 0, none⟩), .int .i64 z] w (NRes (pN (d + 1) ((bytesOf s).drop n)) w0 g s p) := by
  have HS := am_ hs
  have HN := am_ hn
  have HIH := am_ ih
  have hu := Try.underlying29
  have F0 := H.f3 0
  have z1 : ((6 : Int) < z) = False := eq_false (by omega)
  have z2 : decide (z > 6) = false := decide_eq_false (by omega)
  have z3 : decide ((6 : Int) < z) = false := decide_eq_false (by omega)
  clear hs hn ih
  go_enter Try.func47, Try.ntmps47
  go_wp2_with (first | ((with_reducible refine gate_dst (N := 4) rfl ?_); refine nw_ H 4 zt 29 rfl ?_; clear H; intro g4 w1 H; replace H := H.nn; (try clear F0); (try clear F2); (try clear F4); (try clear F6); have F0 := H.f3 0; have F2 := H.f3 2) | ((with_reducible refine gate_store (p := 18) rfl ?_); refine p1_ H 18 0 2 rfl ?_; clear H; intro w1 H; replace H := H.nn; (try clear F0); (try clear F2); (try clear F4); (try clear F6); have F0 := H.f3 0; have F2 := H.f3 2) | ((with_reducible refine gate_dst (N := 21) rfl ?_); refine gL_ (some 21) Try.func71 #[.pointer (some ⟨g, 0, none⟩), .string ⟨#[42]⟩] ?_; refine (takeCall H 0 rfl HN.out HS.out 42).mono ?_; rintro e w2 ⟨r1, m1, rfl, H2, HT1⟩; clear H; have H := H2.nn; clear H2; replace HT1 := am_ HT1; (try clear F0); (try clear F2); (try clear F4); (try clear F6); have F0 := H.f3 0; have F2 := H.f3 2; refine ⟨_, rfl, ?_⟩) | ((with_reducible refine gate_dst (N := 30) rfl ?_); refine gL_ (some 30) Try.func71 #[.pointer (some ⟨g, 0, none⟩), .string ⟨#[33]⟩] ?_; refine (takeCall H 0 rfl HT1.out.le HS.out 33).mono ?_; rintro e w2 ⟨r2, m2, rfl, H2, HT2⟩; clear H; have H := H2.nn; clear H2; replace HT2 := am_ HT2; (try clear F0); (try clear F2); (try clear F4); (try clear F6); have F0 := H.f3 0; have F2 := H.f3 2; refine ⟨_, rfl, ?_⟩) | ((with_reducible refine gate_dst (N := 39) rfl ?_); refine gL_ (some 39) Try.func71 #[.pointer (some ⟨g, 0, none⟩), .string ⟨#[40]⟩] ?_; refine (takeCall H 0 rfl HT2.out.le HS.out 40).mono ?_; rintro e w2 ⟨r3, m3, rfl, H2, HT3⟩; clear H; have H := H2.nn; clear H2; replace HT3 := am_ HT3; (try clear F0); (try clear F2); (try clear F4); (try clear F6); have F0 := H.f3 0; have F2 := H.f3 2; refine ⟨_, rfl, ?_⟩) | ((with_reducible refine gate_dst (N := 72) rfl ?_); refine gL_ (some 72) Try.func72 #[.pointer (some ⟨g, 0, none⟩)] ?_; refine (leafCall (H.box 0 rfl) HT3.out.le HS.out).mono ?_; rintro e w2 ⟨q, k, b', rfl, hq, H2, HQ⟩; replace H2 := H2.unbox (Nat.succ_pos _); clear H; have H := H2.nn; clear H2; replace HQ := am_ (And.intro hq HQ); clear hq; (try clear F0); (try clear F2); (try clear F4); (try clear F6); have F0 := H.f3 0; have F2 := H.f3 2; refine ⟨_, rfl, ?_⟩) | ((with_reducible refine gate_store (p := 4) rfl ?_); refine p3_ H 4 2 rfl ?_; clear H; intro w1 H; replace H := H.nn; (try clear F0); (try clear F2); (try clear F4); (try clear F6); have F0 := H.f3 0; have F2 := H.f3 2) | ((with_reducible refine gate_dst (N := 25) rfl ?_); (first | (refine gL_ (some 25) Try.func47 #[.pointer (some ⟨g, 0, none⟩), .int .i64 (wrap64 (z + 1))] ?_; rw [hdd]) | refine gL_ (some 25) Try.func47 #[.pointer (some ⟨g, 0, none⟩), .int .i64 dd] ?_); refine (HIH.out _ _ _ _ _ _ _ (H.box 0 rfl) HT1.out.le HS.out).mono ?_; rintro e w2 ⟨q6, k6, b6, v, rfl, H2, HQ6⟩; replace H2 := H2.unbox (Nat.succ_pos _); obtain ⟨A6, c6, rfl, -, -⟩ := H2.tv _ List.getElem?_concat_length; clear H; have H := H2.nn; clear H2; replace HQ6 := am_ HQ6; (try clear F0); (try clear F2); (try clear F4); (try clear F6); have F0 := H.f3 0; have F2 := H.f3 2; refine ⟨_, rfl, ?_⟩) | ((with_reducible refine gate_dst (N := 26) rfl ?_); refine wl1_ (t := q6) H 26 3 rfl ?_; clear H; intro h w1 H; replace H := H.nn; (try clear F0); (try clear F2); (try clear F4); (try clear F6); have F0 := H.f3 0; have F2 := H.f3 2) | ((with_reducible refine gate_dst (N := 34) rfl ?_); (first | (refine gL_ (some 34) Try.func47 #[.pointer (some ⟨g, 0, none⟩), .int .i64 (wrap64 (z + 1))] ?_; rw [hdd]) | refine gL_ (some 34) Try.func47 #[.pointer (some ⟨g, 0, none⟩), .int .i64 dd] ?_); refine (HIH.out _ _ _ _ _ _ _ (H.box 0 rfl) HT2.out.le HS.out).mono ?_; rintro e w2 ⟨q7, k7, b7, v, rfl, H2, HQ7⟩; replace H2 := H2.unbox (Nat.succ_pos _); obtain ⟨A7, c7, rfl, -, -⟩ := H2.tv _ List.getElem?_concat_length; clear H; have H := H2.nn; clear H2; replace HQ7 := am_ HQ7; (try clear F0); (try clear F2); (try clear F4); (try clear F6); have F0 := H.f3 0; have F2 := H.f3 2; refine ⟨_, rfl, ?_⟩) | ((with_reducible refine gate_dst (N := 35) rfl ?_); refine wl1_ (t := q7) H 35 3 rfl ?_; clear H; intro h w1 H; replace H := H.nn; (try clear F0); (try clear F2); (try clear F4); (try clear F6); have F0 := H.f3 0; have F2 := H.f3 2) | ((with_reducible refine gate_dst (N := 43) rfl ?_); (first | (refine gL_ (some 43) Try.func47 #[.pointer (some ⟨g, 0, none⟩), .int .i64 (wrap64 (z + 1))] ?_; rw [hdd]) | refine gL_ (some 43) Try.func47 #[.pointer (some ⟨g, 0, none⟩), .int .i64 dd] ?_); refine (HIH.out _ _ _ _ _ _ _ (H.box 0 rfl) HT3.out.le HS.out).mono ?_; rintro e w2 ⟨q1, k1, b1, v, rfl, H2, HQ1⟩; replace H2 := H2.unbox (Nat.succ_pos _); obtain ⟨A1, c1, rfl, -, -⟩ := H2.tv _ List.getElem?_concat_length; clear H; have H := H2.nn; clear H2; replace HQ1 := am_ HQ1; (try clear F0); (try clear F2); (try clear F4); (try clear F6); have F0 := H.f3 0; have F2 := H.f3 2; refine ⟨_, rfl, ?_⟩) | ((with_reducible refine gate_dst (N := 5) rfl ?_); refine nw_ H 5 zt 29 rfl ?_; clear H; intro g5 w1 H; replace H := H.nn; (try clear F0); (try clear F2); (try clear F4); (try clear F6); have F0 := H.f3 0; have F2 := H.f3 2; have F4 := H.f3 4) | ((with_reducible refine gate_store (p := 5) rfl ?_); refine p3_ H 5 4 rfl ?_; clear H; intro w1 H; replace H := H.nn; (try clear F0); (try clear F2); (try clear F4); (try clear F6); have F0 := H.f3 0; have F2 := H.f3 2; have F4 := H.f3 4) | ((with_reducible refine gate_dst (N := 46) rfl ?_); refine gL_ (some 46) Try.func71 #[.pointer (some ⟨g, 0, none⟩), .string ⟨#[124]⟩] ?_; refine (takeCall H 0 rfl HQ1.out.le HS.out 124).mono ?_; rintro e w2 ⟨r4, m4, rfl, H2, HT4⟩; clear H; have H := H2.nn; clear H2; replace HT4 := am_ HT4; (try clear F0); (try clear F2); (try clear F4); (try clear F6); have F0 := H.f3 0; have F2 := H.f3 2; have F4 := H.f3 4; refine ⟨_, rfl, ?_⟩) | ((with_reducible refine gate_dst (N := 49) rfl ?_); refine gL_ (some 49) Try.func71 #[.pointer (some ⟨g, 0, none⟩), .string ⟨#[38]⟩] ?_; refine (takeCall H 0 rfl HT4.out.le HS.out 38).mono ?_; rintro e w2 ⟨r5, m5, rfl, H2, HT5⟩; clear H; have H := H2.nn; clear H2; replace HT5 := am_ HT5; (try clear F0); (try clear F2); (try clear F4); (try clear F6); have F0 := H.f3 0; have F2 := H.f3 2; have F4 := H.f3 4; refine ⟨_, rfl, ?_⟩) | ((with_reducible refine gate_dst (N := 53) rfl ?_); (first | (refine gL_ (some 53) Try.func47 #[.pointer (some ⟨g, 0, none⟩), .int .i64 (wrap64 (z + 1))] ?_; rw [hdd]) | refine gL_ (some 53) Try.func47 #[.pointer (some ⟨g, 0, none⟩), .int .i64 dd] ?_); refine (HIH.out _ _ _ _ _ _ _ (H.box 0 rfl) (by first | exact HT5.out.le | exact HT4.out.le) HS.out).mono ?_; rintro e w2 ⟨q2, k2, b2, v, rfl, H2, HQ2⟩; replace H2 := H2.unbox (Nat.succ_pos _); obtain ⟨A2, c2, rfl, -, -⟩ := H2.tv _ List.getElem?_concat_length; clear H; have H := H2.nn; clear H2; replace HQ2 := am_ HQ2; (try clear F0); (try clear F2); (try clear F4); (try clear F6); have F2 := H.f3 2; have F4 := H.f3 4))
  · refine bodyPost_ret (results_cell_row rfl _ _ g4 29 _ (0, 0) _ rfl (H.blk 2 rfl) hu rfl (by kernel_rfl)) rfl ?_
    subst_vars
    exact ⟨⟨8, ⟨#[]⟩, [q6]⟩, _, _, _, rfl, H.sel [0, 1, 3], rd_star HT1.out HQ6.out⟩
  · refine bodyPost_ret (results_cell_row rfl _ _ g4 29 _ (0, 0) _ rfl (H.blk 2 rfl) hu rfl (by kernel_rfl)) rfl ?_
    subst_vars
    exact ⟨⟨9, ⟨#[]⟩, [q7]⟩, _, _, _, rfl, H.sel [0, 1, 3], rd_not HT1.out HT2.out HQ7.out⟩
  · subst_vars
    cases b2
    · refine ⟨_, rfl, ?_⟩
      go_wp2_with (first | ((with_reducible refine gate_dst (N := 7) rfl ?_); refine nw_ H 7 zt 29 rfl ?_; clear H; intro g7 w1 H; replace H := H.nn; (try clear F0); (try clear F2); (try clear F4); (try clear F6); have F0 := H.f3 0; have F2 := H.f3 2; have F4 := H.f3 4; have F6 := H.f3 6) | ((with_reducible refine gate_store (p := 7) rfl ?_); refine p3_ H 7 6 rfl ?_; clear H; intro w1 H; replace H := H.nn; (try clear F0); (try clear F2); (try clear F4); (try clear F6); have F0 := H.f3 0; have F2 := H.f3 2; have F4 := H.f3 4; have F6 := H.f3 6) | ((with_reducible refine gate_dst (N := 61) rfl ?_); refine gate_guard (by rfl) ?_; dsimp only; refine gL_ (some 61) Try.func71 #[.pointer (some ⟨g, 0, none⟩), .string ⟨#[41]⟩] ?_; refine (takeCall H 0 rfl HQ2.out.le HS.out 41).mono ?_; rintro e w2 ⟨r8, m8, rfl, H2, HT8⟩; clear H; have H := H2.nn; clear H2; replace HT8 := am_ HT8; (try clear F0); (try clear F2); (try clear F4); (try clear F6); have F0 := H.f3 0; have F2 := H.f3 2; have F4 := H.f3 4; have F6 := H.f3 6; refine ⟨_, rfl, ?_⟩) | ((with_reducible refine gate_store (p := 65) rfl ?_); refine p1_ H 65 0 2 rfl ?_; clear H; intro w1 H; replace H := H.nn; (try clear F0); (try clear F2); (try clear F4); (try clear F6); have F0 := H.f3 0; have F2 := H.f3 2; have F4 := H.f3 4; have F6 := H.f3 6) | ((with_reducible refine gate_dst (N := 69) rfl ?_); refine wl2_ (t1 := q1) (t2 := q2) H 69 3 5 rfl ?_; clear H; intro h w1 H; replace H := H.nn; (try clear F0); (try clear F2); (try clear F4); (try clear F6); have F0 := H.f3 0; have F2 := H.f3 2; have F4 := H.f3 4; have F6 := H.f3 6) | ((with_reducible refine gate_store (p := 4) rfl ?_); refine p3_ H 4 2 rfl ?_; clear H; intro w1 H; replace H := H.nn; (try clear F0); (try clear F2); (try clear F4); (try clear F6); have F0 := H.f3 0; have F2 := H.f3 2; have F4 := H.f3 4; have F6 := H.f3 6))
      refine bodyPost_ret (results_cell_row rfl _ _ g4 29 _ (0, 0) _ rfl (H.blk 2 rfl) hu rfl (by kernel_rfl)) rfl ?_
      subst_vars
      exact ⟨⟨6, ⟨#[]⟩, [q1, q2]⟩, _, _, _, rfl, H.sel [0, 1, 3], rd_bin HT1.out HT2.out HT3.out HQ1.out (by decide) (sg_or HT4.out) HQ2.out HT8.out⟩
    · refine ⟨_, rfl, ?_⟩
      go_wp2_with (first | ((with_reducible refine gate_dst (N := 7) rfl ?_); refine nw_ H 7 zt 29 rfl ?_; clear H; intro g7 w1 H; replace H := H.nn; (try clear F0); (try clear F2); (try clear F4); (try clear F6); have F0 := H.f3 0; have F2 := H.f3 2; have F4 := H.f3 4; have F6 := H.f3 6) | ((with_reducible refine gate_store (p := 7) rfl ?_); refine p3_ H 7 6 rfl ?_; clear H; intro w1 H; replace H := H.nn; (try clear F0); (try clear F2); (try clear F4); (try clear F6); have F0 := H.f3 0; have F2 := H.f3 2; have F4 := H.f3 4; have F6 := H.f3 6) | ((with_reducible refine gate_dst (N := 61) rfl ?_); refine gate_guard (by rfl) ?_; dsimp only; refine gL_ (some 61) Try.func71 #[.pointer (some ⟨g, 0, none⟩), .string ⟨#[41]⟩] ?_; refine (takeCall H 0 rfl HQ2.out.le HS.out 41).mono ?_; rintro e w2 ⟨r8, m8, rfl, H2, HT8⟩; clear H; have H := H2.nn; clear H2; replace HT8 := am_ HT8; (try clear F0); (try clear F2); (try clear F4); (try clear F6); have F0 := H.f3 0; have F2 := H.f3 2; have F4 := H.f3 4; have F6 := H.f3 6; refine ⟨_, rfl, ?_⟩) | ((with_reducible refine gate_store (p := 65) rfl ?_); refine p1_ H 65 0 2 rfl ?_; clear H; intro w1 H; replace H := H.nn; (try clear F0); (try clear F2); (try clear F4); (try clear F6); have F0 := H.f3 0; have F2 := H.f3 2; have F4 := H.f3 4; have F6 := H.f3 6) | ((with_reducible refine gate_dst (N := 69) rfl ?_); refine wl2_ (t1 := q1) (t2 := q2) H 69 3 5 rfl ?_; clear H; intro h w1 H; replace H := H.nn; (try clear F0); (try clear F2); (try clear F4); (try clear F6); have F0 := H.f3 0; have F2 := H.f3 2; have F4 := H.f3 4; have F6 := H.f3 6) | ((with_reducible refine gate_store (p := 4) rfl ?_); refine p3_ H 4 2 rfl ?_; clear H; intro w1 H; replace H := H.nn; (try clear F0); (try clear F2); (try clear F4); (try clear F6); have F0 := H.f3 0; have F2 := H.f3 2; have F4 := H.f3 4; have F6 := H.f3 6))
      refine bodyPost_ret (results_cell_row rfl _ _ g4 29 _ (0, 0) _ rfl (H.blk 2 rfl) hu rfl (by kernel_rfl)) rfl ?_
      subst_vars
      exact ⟨⟨6, ⟨#[]⟩, [q1, q2]⟩, _, _, _, rfl, H.sel [0, 1, 3], rd_bad HT1.out HT2.out HT3.out HQ1.out (sg_or HT4.out) HQ2.out⟩
  · subst_vars
    cases b2
    · refine ⟨_, rfl, ?_⟩
      go_wp2_with (first | ((with_reducible refine gate_dst (N := 7) rfl ?_); refine nw_ H 7 zt 29 rfl ?_; clear H; intro g7 w1 H; replace H := H.nn; (try clear F0); (try clear F2); (try clear F4); (try clear F6); have F0 := H.f3 0; have F2 := H.f3 2; have F4 := H.f3 4; have F6 := H.f3 6) | ((with_reducible refine gate_store (p := 7) rfl ?_); refine p3_ H 7 6 rfl ?_; clear H; intro w1 H; replace H := H.nn; (try clear F0); (try clear F2); (try clear F4); (try clear F6); have F0 := H.f3 0; have F2 := H.f3 2; have F4 := H.f3 4; have F6 := H.f3 6) | ((with_reducible refine gate_dst (N := 61) rfl ?_); refine gate_guard (by rfl) ?_; dsimp only; refine gL_ (some 61) Try.func71 #[.pointer (some ⟨g, 0, none⟩), .string ⟨#[41]⟩] ?_; refine (takeCall H 0 rfl HQ2.out.le HS.out 41).mono ?_; rintro e w2 ⟨r8, m8, rfl, H2, HT8⟩; clear H; have H := H2.nn; clear H2; replace HT8 := am_ HT8; (try clear F0); (try clear F2); (try clear F4); (try clear F6); have F0 := H.f3 0; have F2 := H.f3 2; have F4 := H.f3 4; have F6 := H.f3 6; refine ⟨_, rfl, ?_⟩) | ((with_reducible refine gate_store (p := 65) rfl ?_); refine p1_ H 65 0 2 rfl ?_; clear H; intro w1 H; replace H := H.nn; (try clear F0); (try clear F2); (try clear F4); (try clear F6); have F0 := H.f3 0; have F2 := H.f3 2; have F4 := H.f3 4; have F6 := H.f3 6) | ((with_reducible refine gate_dst (N := 69) rfl ?_); refine wl2_ (t1 := q1) (t2 := q2) H 69 3 5 rfl ?_; clear H; intro h w1 H; replace H := H.nn; (try clear F0); (try clear F2); (try clear F4); (try clear F6); have F0 := H.f3 0; have F2 := H.f3 2; have F4 := H.f3 4; have F6 := H.f3 6) | ((with_reducible refine gate_store (p := 4) rfl ?_); refine p3_ H 4 2 rfl ?_; clear H; intro w1 H; replace H := H.nn; (try clear F0); (try clear F2); (try clear F4); (try clear F6); have F0 := H.f3 0; have F2 := H.f3 2; have F4 := H.f3 4; have F6 := H.f3 6))
      refine bodyPost_ret (results_cell_row rfl _ _ g4 29 _ (0, 0) _ rfl (H.blk 2 rfl) hu rfl (by kernel_rfl)) rfl ?_
      subst_vars
      exact ⟨⟨7, ⟨#[]⟩, [q1, q2]⟩, _, _, _, rfl, H.sel [0, 1, 3], rd_bin HT1.out HT2.out HT3.out HQ1.out (by decide) (sg_and HT4.out HT5.out) HQ2.out HT8.out⟩
    · refine ⟨_, rfl, ?_⟩
      go_wp2_with (first | ((with_reducible refine gate_dst (N := 7) rfl ?_); refine nw_ H 7 zt 29 rfl ?_; clear H; intro g7 w1 H; replace H := H.nn; (try clear F0); (try clear F2); (try clear F4); (try clear F6); have F0 := H.f3 0; have F2 := H.f3 2; have F4 := H.f3 4; have F6 := H.f3 6) | ((with_reducible refine gate_store (p := 7) rfl ?_); refine p3_ H 7 6 rfl ?_; clear H; intro w1 H; replace H := H.nn; (try clear F0); (try clear F2); (try clear F4); (try clear F6); have F0 := H.f3 0; have F2 := H.f3 2; have F4 := H.f3 4; have F6 := H.f3 6) | ((with_reducible refine gate_dst (N := 61) rfl ?_); refine gate_guard (by rfl) ?_; dsimp only; refine gL_ (some 61) Try.func71 #[.pointer (some ⟨g, 0, none⟩), .string ⟨#[41]⟩] ?_; refine (takeCall H 0 rfl HQ2.out.le HS.out 41).mono ?_; rintro e w2 ⟨r8, m8, rfl, H2, HT8⟩; clear H; have H := H2.nn; clear H2; replace HT8 := am_ HT8; (try clear F0); (try clear F2); (try clear F4); (try clear F6); have F0 := H.f3 0; have F2 := H.f3 2; have F4 := H.f3 4; have F6 := H.f3 6; refine ⟨_, rfl, ?_⟩) | ((with_reducible refine gate_store (p := 65) rfl ?_); refine p1_ H 65 0 2 rfl ?_; clear H; intro w1 H; replace H := H.nn; (try clear F0); (try clear F2); (try clear F4); (try clear F6); have F0 := H.f3 0; have F2 := H.f3 2; have F4 := H.f3 4; have F6 := H.f3 6) | ((with_reducible refine gate_dst (N := 69) rfl ?_); refine wl2_ (t1 := q1) (t2 := q2) H 69 3 5 rfl ?_; clear H; intro h w1 H; replace H := H.nn; (try clear F0); (try clear F2); (try clear F4); (try clear F6); have F0 := H.f3 0; have F2 := H.f3 2; have F4 := H.f3 4; have F6 := H.f3 6) | ((with_reducible refine gate_store (p := 4) rfl ?_); refine p3_ H 4 2 rfl ?_; clear H; intro w1 H; replace H := H.nn; (try clear F0); (try clear F2); (try clear F4); (try clear F6); have F0 := H.f3 0; have F2 := H.f3 2; have F4 := H.f3 4; have F6 := H.f3 6))
      refine bodyPost_ret (results_cell_row rfl _ _ g4 29 _ (0, 0) _ rfl (H.blk 2 rfl) hu rfl (by kernel_rfl)) rfl ?_
      subst_vars
      exact ⟨⟨7, ⟨#[]⟩, [q1, q2]⟩, _, _, _, rfl, H.sel [0, 1, 3], rd_bad HT1.out HT2.out HT3.out HQ1.out (sg_and HT4.out HT5.out) HQ2.out⟩
  · subst_vars
    cases b2
    · refine ⟨_, rfl, ?_⟩
      go_wp2_with (first | ((with_reducible refine gate_dst (N := 7) rfl ?_); refine nw_ H 7 zt 29 rfl ?_; clear H; intro g7 w1 H; replace H := H.nn; (try clear F0); (try clear F2); (try clear F4); (try clear F6); have F0 := H.f3 0; have F2 := H.f3 2; have F4 := H.f3 4; have F6 := H.f3 6) | ((with_reducible refine gate_store (p := 7) rfl ?_); refine p3_ H 7 6 rfl ?_; clear H; intro w1 H; replace H := H.nn; (try clear F0); (try clear F2); (try clear F4); (try clear F6); have F0 := H.f3 0; have F2 := H.f3 2; have F4 := H.f3 4; have F6 := H.f3 6) | ((with_reducible refine gate_dst (N := 61) rfl ?_); refine gate_guard (by rfl) ?_; dsimp only; refine gL_ (some 61) Try.func71 #[.pointer (some ⟨g, 0, none⟩), .string ⟨#[41]⟩] ?_; refine (takeCall H 0 rfl HQ2.out.le HS.out 41).mono ?_; rintro e w2 ⟨r8, m8, rfl, H2, HT8⟩; clear H; have H := H2.nn; clear H2; replace HT8 := am_ HT8; (try clear F0); (try clear F2); (try clear F4); (try clear F6); have F0 := H.f3 0; have F2 := H.f3 2; have F4 := H.f3 4; have F6 := H.f3 6; refine ⟨_, rfl, ?_⟩) | ((with_reducible refine gate_store (p := 65) rfl ?_); refine p1_ H 65 0 2 rfl ?_; clear H; intro w1 H; replace H := H.nn; (try clear F0); (try clear F2); (try clear F4); (try clear F6); have F0 := H.f3 0; have F2 := H.f3 2; have F4 := H.f3 4; have F6 := H.f3 6) | ((with_reducible refine gate_dst (N := 69) rfl ?_); refine wl2_ (t1 := q1) (t2 := q2) H 69 3 5 rfl ?_; clear H; intro h w1 H; replace H := H.nn; (try clear F0); (try clear F2); (try clear F4); (try clear F6); have F0 := H.f3 0; have F2 := H.f3 2; have F4 := H.f3 4; have F6 := H.f3 6) | ((with_reducible refine gate_store (p := 4) rfl ?_); refine p3_ H 4 2 rfl ?_; clear H; intro w1 H; replace H := H.nn; (try clear F0); (try clear F2); (try clear F4); (try clear F6); have F0 := H.f3 0; have F2 := H.f3 2; have F4 := H.f3 4; have F6 := H.f3 6))
      refine bodyPost_ret (results_cell_row rfl _ _ g4 29 _ (0, 0) _ rfl (H.blk 2 rfl) hu rfl (by kernel_rfl)) rfl ?_
      subst_vars
      exact ⟨⟨5, ⟨#[]⟩, [q1, q2]⟩, _, _, _, rfl, H.sel [0, 1, 3], rd_bin HT1.out HT2.out HT3.out HQ1.out (by decide) (sg_cat HT4.out HT5.out) HQ2.out HT8.out⟩
    · refine ⟨_, rfl, ?_⟩
      go_wp2_with (first | ((with_reducible refine gate_dst (N := 7) rfl ?_); refine nw_ H 7 zt 29 rfl ?_; clear H; intro g7 w1 H; replace H := H.nn; (try clear F0); (try clear F2); (try clear F4); (try clear F6); have F0 := H.f3 0; have F2 := H.f3 2; have F4 := H.f3 4; have F6 := H.f3 6) | ((with_reducible refine gate_store (p := 7) rfl ?_); refine p3_ H 7 6 rfl ?_; clear H; intro w1 H; replace H := H.nn; (try clear F0); (try clear F2); (try clear F4); (try clear F6); have F0 := H.f3 0; have F2 := H.f3 2; have F4 := H.f3 4; have F6 := H.f3 6) | ((with_reducible refine gate_dst (N := 61) rfl ?_); refine gate_guard (by rfl) ?_; dsimp only; refine gL_ (some 61) Try.func71 #[.pointer (some ⟨g, 0, none⟩), .string ⟨#[41]⟩] ?_; refine (takeCall H 0 rfl HQ2.out.le HS.out 41).mono ?_; rintro e w2 ⟨r8, m8, rfl, H2, HT8⟩; clear H; have H := H2.nn; clear H2; replace HT8 := am_ HT8; (try clear F0); (try clear F2); (try clear F4); (try clear F6); have F0 := H.f3 0; have F2 := H.f3 2; have F4 := H.f3 4; have F6 := H.f3 6; refine ⟨_, rfl, ?_⟩) | ((with_reducible refine gate_store (p := 65) rfl ?_); refine p1_ H 65 0 2 rfl ?_; clear H; intro w1 H; replace H := H.nn; (try clear F0); (try clear F2); (try clear F4); (try clear F6); have F0 := H.f3 0; have F2 := H.f3 2; have F4 := H.f3 4; have F6 := H.f3 6) | ((with_reducible refine gate_dst (N := 69) rfl ?_); refine wl2_ (t1 := q1) (t2 := q2) H 69 3 5 rfl ?_; clear H; intro h w1 H; replace H := H.nn; (try clear F0); (try clear F2); (try clear F4); (try clear F6); have F0 := H.f3 0; have F2 := H.f3 2; have F4 := H.f3 4; have F6 := H.f3 6) | ((with_reducible refine gate_store (p := 4) rfl ?_); refine p3_ H 4 2 rfl ?_; clear H; intro w1 H; replace H := H.nn; (try clear F0); (try clear F2); (try clear F4); (try clear F6); have F0 := H.f3 0; have F2 := H.f3 2; have F4 := H.f3 4; have F6 := H.f3 6))
      refine bodyPost_ret (results_cell_row rfl _ _ g4 29 _ (0, 0) _ rfl (H.blk 2 rfl) hu rfl (by kernel_rfl)) rfl ?_
      subst_vars
      exact ⟨⟨5, ⟨#[]⟩, [q1, q2]⟩, _, _, _, rfl, H.sel [0, 1, 3], rd_bad HT1.out HT2.out HT3.out HQ1.out (sg_cat HT4.out HT5.out) HQ2.out⟩
  · refine bodyPost_ret (results_cell_row rfl _ _ g4 29 _ (0, 0) _ rfl (H.blk 2 rfl) hu rfl (by kernel_rfl)) rfl ?_
    subst_vars
    obtain ⟨h1, h2⟩ := HQ.out
    refine ⟨q, k, b', .slice none 0 0, rfl, ?_, rd_lf HT1.out HT2.out HT3.out h2⟩
    rw [h1]
    exact (sub_nil (H.pre 2) : Sl w0 _ [rbox g s k b', p, tre (.slice none 0 0) []])
theorem nodeCalls : ∀ d : Nat, d ≤ 7 → NodeAt d (7 - d)
  | 0, _ => fun w0 w g n s b p H hn hs => by
    have h := nodeBad (z := 7 - ((0 : Nat) : Int)) H hn hs (Or.inr (by omega))
    have e : (if b = true then none else pN 0 ((bytesOf s).drop n)) = none := by cases b <;> rfl
    rw [e]
    exact h
  | d + 1, hd => fun w0 w g n s b p H hn hs => by
    cases b with
    | true => exact nodeBad H hn hs (Or.inl rfl)
    | false => exact nodeStep H hn hs (by omega) (by rw [w64 (by omega) (by omega)]; omega) (nodeCalls d (by omega))
end Go.Proofs.Ytldgkgdgcfllmaa
end
