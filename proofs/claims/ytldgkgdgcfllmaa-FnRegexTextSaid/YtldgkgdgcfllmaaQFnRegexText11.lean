/- Texts of the proof of FnRegexText, put together. No condition. -/
import Derived.Test.YtldgkgdgcfllmaaQFnRegexText3
import Derived.Test.YtldgkgdgcfllmaaQFnRegexText10
import Derived.Test.YtldgkgdgcfllmaaQFnRegexText8
import Derived.Test.YtldgkgdgcfllmaaQFnRegexText6
import Derived.Test.YtldgkgdgcfllmaaQFnRegexText7
import Derived.Test.YtldgkgdgcfllmaaQFnRegexText9
import Derived.Test.YtldgkgdgcfllmaaQFnRegexText4
import Derived.Test.YtldgkgdgcfllmaaQFnRegexText5
section
namespace Go.Proofs.Ytldgkgdgcfllmaa
open Go.RowKit Go.Shelf Go.Proofs.Ytldgkgdgcfllmaa.P Go.Proofs.Ytldgkgdgcfllmaa.Pl Go.Proofs.Ytldgkgdgcfllmaa.Rg Go.Proofs.YtldgkgdgcfllmaaW.PrintWords Go.Proofs.YtldgkgdgcfllmaaW.PrintLast Go.Proofs.YtldgkgdgcfllmaaW.PrintMore
set_option linter.unusedVariables false
set_option linter.unusedSimpArgs false
def NRes (res : Option (Rx × List Int)) (w0 : World) (g : Nat) (s : ByteArray) (p : Pc) (e : Ending) (w' : World) : Prop := ∃ q m b' v, e = .returned (.agg #[.int .i64 q.f0, .string q.f1, v]) ∧ Sl w0 w' [rbox g s m b', p, tre v q.f2] ∧ RdR res s m b' q
def NodeAt (d : Nat) (z : Int) : Prop := ∀ (w0 w : World) (g n : Nat) (s : ByteArray) (b : Bool) (p : Pc), Sl w0 w [rbox g s n b, p] → n ≤ s.size → s.size ≤ 140737488351232 → Calls Try.prog 47 #[.pointer (some ⟨g, 0, none⟩), .int .i64 z] w (NRes (if b = true then none else pN d ((bytesOf s).drop n)) w0 g s p)
set_option maxHeartbeats 40000000 in
set_option maxRecDepth 100000 in
theorem nodeBad {w0 w : World} {g n : Nat} {s : ByteArray} {b : Bool} {p : Pc} {z : Int} (H : Sl w0 w [rbox g s n b, p]) (hn : n ≤ s.size) (hs : s.size ≤ 140737488351232) (hb : b = true ∨ 6 < z) :
    Calls Try.prog 47 #[.pointer (some ⟨g, 0, none⟩), .int .i64 z] w (NRes none w0 g s p) := by
  have HS := am_ hs
  have HN := am_ hn
  have hu := Try.underlying29
  have F0 := H.f3 0
  clear hs hn
  cases b with
  | true =>
    clear hb
    go_enter Try.func47, Try.ntmps47
    go_wp2_with (first | ((with_reducible refine gate_dst (N := 4) rfl ?_); refine nw_ H 4 zt 29 rfl ?_; clear H; intro g4 w1 H; replace H := H.nn; (try clear F0); (try clear F2); (try clear F4); (try clear F6); have F0 := H.f3 0; have F2 := H.f3 2) | ((with_reducible refine gate_store (p := 18) rfl ?_); refine p1_ H 18 0 2 rfl ?_; clear H; intro w1 H; replace H := H.nn; (try clear F0); (try clear F2); (try clear F4); (try clear F6); have F0 := H.f3 0; have F2 := H.f3 2) | ((with_reducible refine gate_dst (N := 21) rfl ?_); refine gL_ (some 21) Try.func71 #[.pointer (some ⟨g, 0, none⟩), .string ⟨#[42]⟩] ?_; refine (takeCall H 0 rfl HN.out HS.out 42).mono ?_; rintro e w2 ⟨r1, m1, rfl, H2, HT1⟩; clear H; have H := H2.nn; clear H2; obtain ⟨rfl, rfl⟩ := HT1.bad; (try clear F0); (try clear F2); (try clear F4); (try clear F6); have F0 := H.f3 0; have F2 := H.f3 2; refine ⟨_, rfl, ?_⟩) | ((with_reducible refine gate_dst (N := 30) rfl ?_); refine gL_ (some 30) Try.func71 #[.pointer (some ⟨g, 0, none⟩), .string ⟨#[33]⟩] ?_; refine (takeCall H 0 rfl HN.out HS.out 33).mono ?_; rintro e w2 ⟨r2, m2, rfl, H2, HT2⟩; clear H; have H := H2.nn; clear H2; obtain ⟨rfl, rfl⟩ := HT2.bad; (try clear F0); (try clear F2); (try clear F4); (try clear F6); have F0 := H.f3 0; have F2 := H.f3 2; refine ⟨_, rfl, ?_⟩) | ((with_reducible refine gate_dst (N := 39) rfl ?_); refine gL_ (some 39) Try.func71 #[.pointer (some ⟨g, 0, none⟩), .string ⟨#[40]⟩] ?_; refine (takeCall H 0 rfl HN.out HS.out 40).mono ?_; rintro e w2 ⟨r3, m3, rfl, H2, HT3⟩; clear H; have H := H2.nn; clear H2; obtain ⟨rfl, rfl⟩ := HT3.bad; (try clear F0); (try clear F2); (try clear F4); (try clear F6); have F0 := H.f3 0; have F2 := H.f3 2; refine ⟨_, rfl, ?_⟩) | ((with_reducible refine gate_dst (N := 72) rfl ?_); refine gL_ (some 72) Try.func72 #[.pointer (some ⟨g, 0, none⟩)] ?_; refine (leafCall (H.box 0 rfl) HN.out HS.out).mono ?_; rintro e w2 ⟨q, k, b', rfl, hq, H2, HQ⟩; replace H2 := H2.unbox (Nat.succ_pos _); clear H; have H := H2.nn; clear H2; replace HQ := am_ (And.intro hq HQ); clear hq; (try clear F0); (try clear F2); (try clear F4); (try clear F6); have F0 := H.f3 0; have F2 := H.f3 2; refine ⟨_, rfl, ?_⟩) | ((with_reducible refine gate_store (p := 4) rfl ?_); refine p3_ H 4 2 rfl ?_; clear H; intro w1 H; replace H := H.nn; (try clear F0); (try clear F2); (try clear F4); (try clear F6); have F0 := H.f3 0; have F2 := H.f3 2))
    refine bodyPost_ret (results_cell_row rfl _ _ g4 29 _ (0, 0) _ rfl (H.blk 2 rfl) hu rfl (by kernel_rfl)) rfl ?_
    obtain ⟨h1, h2⟩ := HQ.out
    refine ⟨q, k, b', .slice none 0 0, rfl, ?_, h2⟩
    rw [h1]
    exact (sub_nil (H.pre 2) : Sl w0 _ [rbox g s k b', p, tre (.slice none 0 0) []])
  | false =>
    have hz : 6 < z := by simpa using hb
    have z1 : ((6 : Int) < z) = True := eq_true hz
    have z2 : decide (z > 6) = true := decide_eq_true hz
    have z3 : decide ((6 : Int) < z) = true := decide_eq_true hz
    clear hb hz
    go_enter Try.func47, Try.ntmps47
    go_wp2_with (first | ((with_reducible refine gate_dst (N := 4) rfl ?_); refine nw_ H 4 zt 29 rfl ?_; clear H; intro g4 w1 H; replace H := H.nn; (try clear F0); (try clear F2); (try clear F4); (try clear F6); have F0 := H.f3 0; have F2 := H.f3 2) | ((with_reducible refine gate_store (p := 18) rfl ?_); refine p1_ H 18 0 2 rfl ?_; clear H; intro w1 H; replace H := H.nn; (try clear F0); (try clear F2); (try clear F4); (try clear F6); have F0 := H.f3 0; have F2 := H.f3 2) | ((with_reducible refine gate_dst (N := 21) rfl ?_); refine gL_ (some 21) Try.func71 #[.pointer (some ⟨g, 0, none⟩), .string ⟨#[42]⟩] ?_; refine (takeCall H 0 rfl HN.out HS.out 42).mono ?_; rintro e w2 ⟨r1, m1, rfl, H2, HT1⟩; clear H; have H := H2.nn; clear H2; obtain ⟨rfl, rfl⟩ := HT1.bad; (try clear F0); (try clear F2); (try clear F4); (try clear F6); have F0 := H.f3 0; have F2 := H.f3 2; refine ⟨_, rfl, ?_⟩) | ((with_reducible refine gate_dst (N := 30) rfl ?_); refine gL_ (some 30) Try.func71 #[.pointer (some ⟨g, 0, none⟩), .string ⟨#[33]⟩] ?_; refine (takeCall H 0 rfl HN.out HS.out 33).mono ?_; rintro e w2 ⟨r2, m2, rfl, H2, HT2⟩; clear H; have H := H2.nn; clear H2; obtain ⟨rfl, rfl⟩ := HT2.bad; (try clear F0); (try clear F2); (try clear F4); (try clear F6); have F0 := H.f3 0; have F2 := H.f3 2; refine ⟨_, rfl, ?_⟩) | ((with_reducible refine gate_dst (N := 39) rfl ?_); refine gL_ (some 39) Try.func71 #[.pointer (some ⟨g, 0, none⟩), .string ⟨#[40]⟩] ?_; refine (takeCall H 0 rfl HN.out HS.out 40).mono ?_; rintro e w2 ⟨r3, m3, rfl, H2, HT3⟩; clear H; have H := H2.nn; clear H2; obtain ⟨rfl, rfl⟩ := HT3.bad; (try clear F0); (try clear F2); (try clear F4); (try clear F6); have F0 := H.f3 0; have F2 := H.f3 2; refine ⟨_, rfl, ?_⟩) | ((with_reducible refine gate_dst (N := 72) rfl ?_); refine gL_ (some 72) Try.func72 #[.pointer (some ⟨g, 0, none⟩)] ?_; refine (leafCall (H.box 0 rfl) HN.out HS.out).mono ?_; rintro e w2 ⟨q, k, b', rfl, hq, H2, HQ⟩; replace H2 := H2.unbox (Nat.succ_pos _); clear H; have H := H2.nn; clear H2; replace HQ := am_ (And.intro hq HQ); clear hq; (try clear F0); (try clear F2); (try clear F4); (try clear F6); have F0 := H.f3 0; have F2 := H.f3 2; refine ⟨_, rfl, ?_⟩) | ((with_reducible refine gate_store (p := 4) rfl ?_); refine p3_ H 4 2 rfl ?_; clear H; intro w1 H; replace H := H.nn; (try clear F0); (try clear F2); (try clear F4); (try clear F6); have F0 := H.f3 0; have F2 := H.f3 2))
    refine bodyPost_ret (results_cell_row rfl _ _ g4 29 _ (0, 0) _ rfl (H.blk 2 rfl) hu rfl (by kernel_rfl)) rfl ?_
    obtain ⟨h1, h2⟩ := HQ.out
    refine ⟨q, k, b', .slice none 0 0, rfl, ?_, h2⟩
    rw [h1]
    exact (sub_nil (H.pre 2) : Sl w0 _ [rbox g s k b', p, tre (.slice none 0 0) []])
set_option maxHeartbeats 40000000 in
set_option maxRecDepth 100000 in
theorem nodeStep {w0 w : World} {g n : Nat} {s : ByteArray} {p : Pc} {z dd : Int} {d : Nat} (H : Sl w0 w [rbox g s n false, p]) (hn : n ≤ s.size) (hs : s.size ≤ 140737488351232) (hz : z ≤ 6) (hdd : wrap64 (z + 1) = dd) (ih : NodeAt d dd) :
    Calls Try.prog 47 #[.pointer (some ⟨g, 0, none⟩), .int .i64 z] w (NRes (pN (d + 1) ((bytesOf s).drop n)) w0 g s p) := by
  have HS := am_ hs
  have HN := am_ hn
  have HIH := am_ ih
  have hu := Try.underlying29
  have F0 := H.f3 0
  have z1 : ((6 : Int) < z) = False := eq_false (by omega)
  have z2 : decide (z > 6) = false := decide_eq_false (by omega)
  have z3 : decide ((6 : Int) < z) = false := decide_eq_false (by omega)
  clear hs hn ih
  go_enter Try.func47, Try.ntmps47
  go_wp2_with (first | ((with_reducible refine gate_dst (N := 4) rfl ?_); refine nw_ H 4 zt 29 rfl ?_; clear H; intro g4 w1 H; replace H := H.nn; (try clear F0); (try clear F2); (try clear F4); (try clear F6); have F0 := H.f3 0; have F2 := H.f3 2) | ((with_reducible refine gate_store (p := 18) rfl ?_); refine p1_ H 18 0 2 rfl ?_; clear H; intro w1 H; replace H := H.nn; (try clear F0); (try clear F2); (try clear F4); (try clear F6); have F0 := H.f3 0; have F2 := H.f3 2) | ((with_reducible refine gate_dst (N := 21) rfl ?_); refine gL_ (some 21) Try.func71 #[.pointer (some ⟨g, 0, none⟩), .string ⟨#[42]⟩] ?_; refine (takeCall H 0 rfl HN.out HS.out 42).mono ?_; rintro e w2 ⟨r1, m1, rfl, H2, HT1⟩; clear H; have H := H2.nn; clear H2; replace HT1 := am_ HT1; (try clear F0); (try clear F2); (try clear F4); (try clear F6); have F0 := H.f3 0; have F2 := H.f3 2; refine ⟨_, rfl, ?_⟩) | ((with_reducible refine gate_dst (N := 30) rfl ?_); refine gL_ (some 30) Try.func71 #[.pointer (some ⟨g, 0, none⟩), .string ⟨#[33]⟩] ?_; refine (takeCall H 0 rfl HT1.out.le HS.out 33).mono ?_; rintro e w2 ⟨r2, m2, rfl, H2, HT2⟩; clear H; have H := H2.nn; clear H2; replace HT2 := am_ HT2; (try clear F0); (try clear F2); (try clear F4); (try clear F6); have F0 := H.f3 0; have F2 := H.f3 2; refine ⟨_, rfl, ?_⟩) | ((with_reducible refine gate_dst (N := 39) rfl ?_); refine gL_ (some 39) Try.func71 #[.pointer (some ⟨g, 0, none⟩), .string ⟨#[40]⟩] ?_; refine (takeCall H 0 rfl HT2.out.le HS.out 40).mono ?_; rintro e w2 ⟨r3, m3, rfl, H2, HT3⟩; clear H; have H := H2.nn; clear H2; replace HT3 := am_ HT3; (try clear F0); (try clear F2); (try clear F4); (try clear F6); have F0 := H.f3 0; have F2 := H.f3 2; refine ⟨_, rfl, ?_⟩) | ((with_reducible refine gate_dst (N := 72) rfl ?_); refine gL_ (some 72) Try.func72 #[.pointer (some ⟨g, 0, none⟩)] ?_; refine (leafCall (H.box 0 rfl) HT3.out.le HS.out).mono ?_; rintro e w2 ⟨q, k, b', rfl, hq, H2, HQ⟩; replace H2 := H2.unbox (Nat.succ_pos _); clear H; have H := H2.nn; clear H2; replace HQ := am_ (And.intro hq HQ); clear hq; (try clear F0); (try clear F2); (try clear F4); (try clear F6); have F0 := H.f3 0; have F2 := H.f3 2; refine ⟨_, rfl, ?_⟩) | ((with_reducible refine gate_store (p := 4) rfl ?_); refine p3_ H 4 2 rfl ?_; clear H; intro w1 H; replace H := H.nn; (try clear F0); (try clear F2); (try clear F4); (try clear F6); have F0 := H.f3 0; have F2 := H.f3 2) | ((with_reducible refine gate_dst (N := 25) rfl ?_); (first | (refine gL_ (some 25) Try.func47 #[.pointer (some ⟨g, 0, none⟩), .int .i64 (wrap64 (z + 1))] ?_; rw [hdd]) | refine gL_ (some 25) Try.func47 #[.pointer (some ⟨g, 0, none⟩), .int .i64 dd] ?_); refine (HIH.out _ _ _ _ _ _ _ (H.box 0 rfl) HT1.out.le HS.out).mono ?_; rintro e w2 ⟨q6, k6, b6, v, rfl, H2, HQ6⟩; replace H2 := H2.unbox (Nat.succ_pos _); obtain ⟨A6, c6, rfl, -, -⟩ := H2.tv _ List.getElem?_concat_length; clear H; have H := H2.nn; clear H2; replace HQ6 := am_ HQ6; (try clear F0); (try clear F2); (try clear F4); (try clear F6); have F0 := H.f3 0; have F2 := H.f3 2; refine ⟨_, rfl, ?_⟩) | ((with_reducible refine gate_dst (N := 26) rfl ?_); refine wl1_ (t := q6) H 26 3 rfl ?_; clear H; intro h w1 H; replace H := H.nn; (try clear F0); (try clear F2); (try clear F4); (try clear F6); have F0 := H.f3 0; have F2 := H.f3 2) | ((with_reducible refine gate_dst (N := 34) rfl ?_); (first | (refine gL_ (some 34) Try.func47 #[.pointer (some ⟨g, 0, none⟩), .int .i64 (wrap64 (z + 1))] ?_; rw [hdd]) | refine gL_ (some 34) Try.func47 #[.pointer (some ⟨g, 0, none⟩), .int .i64 dd] ?_); refine (HIH.out _ _ _ _ _ _ _ (H.box 0 rfl) HT2.out.le HS.out).mono ?_; rintro e w2 ⟨q7, k7, b7, v, rfl, H2, HQ7⟩; replace H2 := H2.unbox (Nat.succ_pos _); obtain ⟨A7, c7, rfl, -, -⟩ := H2.tv _ List.getElem?_concat_length; clear H; have H := H2.nn; clear H2; replace HQ7 := am_ HQ7; (try clear F0); (try clear F2); (try clear F4); (try clear F6); have F0 := H.f3 0; have F2 := H.f3 2; refine ⟨_, rfl, ?_⟩) | ((with_reducible refine gate_dst (N := 35) rfl ?_); refine wl1_ (t := q7) H 35 3 rfl ?_; clear H; intro h w1 H; replace H := H.nn; (try clear F0); (try clear F2); (try clear F4); (try clear F6); have F0 := H.f3 0; have F2 := H.f3 2) | ((with_reducible refine gate_dst (N := 43) rfl ?_); (first | (refine gL_ (some 43) Try.func47 #[.pointer (some ⟨g, 0, none⟩), .int .i64 (wrap64 (z + 1))] ?_; rw [hdd]) | refine gL_ (some 43) Try.func47 #[.pointer (some ⟨g, 0, none⟩), .int .i64 dd] ?_); refine (HIH.out _ _ _ _ _ _ _ (H.box 0 rfl) HT3.out.le HS.out).mono ?_; rintro e w2 ⟨q1, k1, b1, v, rfl, H2, HQ1⟩; replace H2 := H2.unbox (Nat.succ_pos _); obtain ⟨A1, c1, rfl, -, -⟩ := H2.tv _ List.getElem?_concat_length; clear H; have H := H2.nn; clear H2; replace HQ1 := am_ HQ1; (try clear F0); (try clear F2); (try clear F4); (try clear F6); have F0 := H.f3 0; have F2 := H.f3 2; refine ⟨_, rfl, ?_⟩) | ((with_reducible refine gate_dst (N := 5) rfl ?_); refine nw_ H 5 zt 29 rfl ?_; clear H; intro g5 w1 H; replace H := H.nn; (try clear F0); (try clear F2); (try clear F4); (try clear F6); have F0 := H.f3 0; have F2 := H.f3 2; have F4 := H.f3 4) | ((with_reducible refine gate_store (p := 5) rfl ?_); refine p3_ H 5 4 rfl ?_; clear H; intro w1 H; replace H := H.nn; (try clear F0); (try clear F2); (try clear F4); (try clear F6); have F0 := H.f3 0; have F2 := H.f3 2; have F4 := H.f3 4) | ((with_reducible refine gate_dst (N := 46) rfl ?_); refine gL_ (some 46) Try.func71 #[.pointer (some ⟨g, 0, none⟩), .string ⟨#[124]⟩] ?_; refine (takeCall H 0 rfl HQ1.out.le HS.out 124).mono ?_; rintro e w2 ⟨r4, m4, rfl, H2, HT4⟩; clear H; have H := H2.nn; clear H2; replace HT4 := am_ HT4; (try clear F0); (try clear F2); (try clear F4); (try clear F6); have F0 := H.f3 0; have F2 := H.f3 2; have F4 := H.f3 4; refine ⟨_, rfl, ?_⟩) | ((with_reducible refine gate_dst (N := 49) rfl ?_); refine gL_ (some 49) Try.func71 #[.pointer (some ⟨g, 0, none⟩), .string ⟨#[38]⟩] ?_; refine (takeCall H 0 rfl HT4.out.le HS.out 38).mono ?_; rintro e w2 ⟨r5, m5, rfl, H2, HT5⟩; clear H; have H := H2.nn; clear H2; replace HT5 := am_ HT5; (try clear F0); (try clear F2); (try clear F4); (try clear F6); have F0 := H.f3 0; have F2 := H.f3 2; have F4 := H.f3 4; refine ⟨_, rfl, ?_⟩) | ((with_reducible refine gate_dst (N := 53) rfl ?_); (first | (refine gL_ (some 53) Try.func47 #[.pointer (some ⟨g, 0, none⟩), .int .i64 (wrap64 (z + 1))] ?_; rw [hdd]) | refine gL_ (some 53) Try.func47 #[.pointer (some ⟨g, 0, none⟩), .int .i64 dd] ?_); refine (HIH.out _ _ _ _ _ _ _ (H.box 0 rfl) (by first | exact HT5.out.le | exact HT4.out.le) HS.out).mono ?_; rintro e w2 ⟨q2, k2, b2, v, rfl, H2, HQ2⟩; replace H2 := H2.unbox (Nat.succ_pos _); obtain ⟨A2, c2, rfl, -, -⟩ := H2.tv _ List.getElem?_concat_length; clear H; have H := H2.nn; clear H2; replace HQ2 := am_ HQ2; (try clear F0); (try clear F2); (try clear F4); (try clear F6); have F2 := H.f3 2; have F4 := H.f3 4))
  · refine bodyPost_ret (results_cell_row rfl _ _ g4 29 _ (0, 0) _ rfl (H.blk 2 rfl) hu rfl (by kernel_rfl)) rfl ?_
    subst_vars
    exact ⟨⟨8, ⟨#[]⟩, [q6]⟩, _, _, _, rfl, H.sel [0, 1, 3], rd_star HT1.out HQ6.out⟩
  · refine bodyPost_ret (results_cell_row rfl _ _ g4 29 _ (0, 0) _ rfl (H.blk 2 rfl) hu rfl (by kernel_rfl)) rfl ?_
    subst_vars
    exact ⟨⟨9, ⟨#[]⟩, [q7]⟩, _, _, _, rfl, H.sel [0, 1, 3], rd_not HT1.out HT2.out HQ7.out⟩
  · subst_vars
    cases b2
    · refine ⟨_, rfl, ?_⟩
      go_wp2_with (first | ((with_reducible refine gate_dst (N := 7) rfl ?_); refine nw_ H 7 zt 29 rfl ?_; clear H; intro g7 w1 H; replace H := H.nn; (try clear F0); (try clear F2); (try clear F4); (try clear F6); have F0 := H.f3 0; have F2 := H.f3 2; have F4 := H.f3 4; have F6 := H.f3 6) | ((with_reducible refine gate_store (p := 7) rfl ?_); refine p3_ H 7 6 rfl ?_; clear H; intro w1 H; replace H := H.nn; (try clear F0); (try clear F2); (try clear F4); (try clear F6); have F0 := H.f3 0; have F2 := H.f3 2; have F4 := H.f3 4; have F6 := H.f3 6) | ((with_reducible refine gate_dst (N := 61) rfl ?_); refine gate_guard (by rfl) ?_; dsimp only; refine gL_ (some 61) Try.func71 #[.pointer (some ⟨g, 0, none⟩), .string ⟨#[41]⟩] ?_; refine (takeCall H 0 rfl HQ2.out.le HS.out 41).mono ?_; rintro e w2 ⟨r8, m8, rfl, H2, HT8⟩; clear H; have H := H2.nn; clear H2; replace HT8 := am_ HT8; (try clear F0); (try clear F2); (try clear F4); (try clear F6); have F0 := H.f3 0; have F2 := H.f3 2; have F4 := H.f3 4; have F6 := H.f3 6; refine ⟨_, rfl, ?_⟩) | ((with_reducible refine gate_store (p := 65) rfl ?_); refine p1_ H 65 0 2 rfl ?_; clear H; intro w1 H; replace H := H.nn; (try clear F0); (try clear F2); (try clear F4); (try clear F6); have F0 := H.f3 0; have F2 := H.f3 2; have F4 := H.f3 4; have F6 := H.f3 6) | ((with_reducible refine gate_dst (N := 69) rfl ?_); refine wl2_ (t1 := q1) (t2 := q2) H 69 3 5 rfl ?_; clear H; intro h w1 H; replace H := H.nn; (try clear F0); (try clear F2); (try clear F4); (try clear F6); have F0 := H.f3 0; have F2 := H.f3 2; have F4 := H.f3 4; have F6 := H.f3 6) | ((with_reducible refine gate_store (p := 4) rfl ?_); refine p3_ H 4 2 rfl ?_; clear H; intro w1 H; replace H := H.nn; (try clear F0); (try clear F2); (try clear F4); (try clear F6); have F0 := H.f3 0; have F2 := H.f3 2; have F4 := H.f3 4; have F6 := H.f3 6))
      refine bodyPost_ret (results_cell_row rfl _ _ g4 29 _ (0, 0) _ rfl (H.blk 2 rfl) hu rfl (by kernel_rfl)) rfl ?_
      subst_vars
      exact ⟨⟨6, ⟨#[]⟩, [q1, q2]⟩, _, _, _, rfl, H.sel [0, 1, 3], rd_bin HT1.out HT2.out HT3.out HQ1.out (by decide) (sg_or HT4.out) HQ2.out HT8.out⟩
    · refine ⟨_, rfl, ?_⟩
      go_wp2_with (first | ((with_reducible refine gate_dst (N := 7) rfl ?_); refine nw_ H 7 zt 29 rfl ?_; clear H; intro g7 w1 H; replace H := H.nn; (try clear F0); (try clear F2); (try clear F4); (try clear F6); have F0 := H.f3 0; have F2 := H.f3 2; have F4 := H.f3 4; have F6 := H.f3 6) | ((with_reducible refine gate_store (p := 7) rfl ?_); refine p3_ H 7 6 rfl ?_; clear H; intro w1 H; replace H := H.nn; (try clear F0); (try clear F2); (try clear F4); (try clear F6); have F0 := H.f3 0; have F2 := H.f3 2; have F4 := H.f3 4; have F6 := H.f3 6) | ((with_reducible refine gate_dst (N := 61) rfl ?_); refine gate_guard (by rfl) ?_; dsimp only; refine gL_ (some 61) Try.func71 #[.pointer (some ⟨g, 0, none⟩), .string ⟨#[41]⟩] ?_; refine (takeCall H 0 rfl HQ2.out.le HS.out 41).mono ?_; rintro e w2 ⟨r8, m8, rfl, H2, HT8⟩; clear H; have H := H2.nn; clear H2; replace HT8 := am_ HT8; (try clear F0); (try clear F2); (try clear F4); (try clear F6); have F0 := H.f3 0; have F2 := H.f3 2; have F4 := H.f3 4; have F6 := H.f3 6; refine ⟨_, rfl, ?_⟩) | ((with_reducible refine gate_store (p := 65) rfl ?_); refine p1_ H 65 0 2 rfl ?_; clear H; intro w1 H; replace H := H.nn; (try clear F0); (try clear F2); (try clear F4); (try clear F6); have F0 := H.f3 0; have F2 := H.f3 2; have F4 := H.f3 4; have F6 := H.f3 6) | ((with_reducible refine gate_dst (N := 69) rfl ?_); refine wl2_ (t1 := q1) (t2 := q2) H 69 3 5 rfl ?_; clear H; intro h w1 H; replace H := H.nn; (try clear F0); (try clear F2); (try clear F4); (try clear F6); have F0 := H.f3 0; have F2 := H.f3 2; have F4 := H.f3 4; have F6 := H.f3 6) | ((with_reducible refine gate_store (p := 4) rfl ?_); refine p3_ H 4 2 rfl ?_; clear H; intro w1 H; replace H := H.nn; (try clear F0); (try clear F2); (try clear F4); (try clear F6); have F0 := H.f3 0; have F2 := H.f3 2; have F4 := H.f3 4; have F6 := H.f3 6))
      refine bodyPost_ret (results_cell_row rfl _ _ g4 29 _ (0, 0) _ rfl (H.blk 2 rfl) hu rfl (by kernel_rfl)) rfl ?_
      subst_vars
      exact ⟨⟨6, ⟨#[]⟩, [q1, q2]⟩, _, _, _, rfl, H.sel [0, 1, 3], rd_bad HT1.out HT2.out HT3.out HQ1.out (sg_or HT4.out) HQ2.out⟩
  · subst_vars
    cases b2
    · refine ⟨_, rfl, ?_⟩
      go_wp2_with (first | ((with_reducible refine gate_dst (N := 7) rfl ?_); refine nw_ H 7 zt 29 rfl ?_; clear H; intro g7 w1 H; replace H := H.nn; (try clear F0); (try clear F2); (try clear F4); (try clear F6); have F0 := H.f3 0; have F2 := H.f3 2; have F4 := H.f3 4; have F6 := H.f3 6) | ((with_reducible refine gate_store (p := 7) rfl ?_); refine p3_ H 7 6 rfl ?_; clear H; intro w1 H; replace H := H.nn; (try clear F0); (try clear F2); (try clear F4); (try clear F6); have F0 := H.f3 0; have F2 := H.f3 2; have F4 := H.f3 4; have F6 := H.f3 6) | ((with_reducible refine gate_dst (N := 61) rfl ?_); refine gate_guard (by rfl) ?_; dsimp only; refine gL_ (some 61) Try.func71 #[.pointer (some ⟨g, 0, none⟩), .string ⟨#[41]⟩] ?_; refine (takeCall H 0 rfl HQ2.out.le HS.out 41).mono ?_; rintro e w2 ⟨r8, m8, rfl, H2, HT8⟩; clear H; have H := H2.nn; clear H2; replace HT8 := am_ HT8; (try clear F0); (try clear F2); (try clear F4); (try clear F6); have F0 := H.f3 0; have F2 := H.f3 2; have F4 := H.f3 4; have F6 := H.f3 6; refine ⟨_, rfl, ?_⟩) | ((with_reducible refine gate_store (p := 65) rfl ?_); refine p1_ H 65 0 2 rfl ?_; clear H; intro w1 H; replace H := H.nn; (try clear F0); (try clear F2); (try clear F4); (try clear F6); have F0 := H.f3 0; have F2 := H.f3 2; have F4 := H.f3 4; have F6 := H.f3 6) | ((with_reducible refine gate_dst (N := 69) rfl ?_); refine wl2_ (t1 := q1) (t2 := q2) H 69 3 5 rfl ?_; clear H; intro h w1 H; replace H := H.nn; (try clear F0); (try clear F2); (try clear F4); (try clear F6); have F0 := H.f3 0; have F2 := H.f3 2; have F4 := H.f3 4; have F6 := H.f3 6) | ((with_reducible refine gate_store (p := 4) rfl ?_); refine p3_ H 4 2 rfl ?_; clear H; intro w1 H; replace H := H.nn; (try clear F0); (try clear F2); (try clear F4); (try clear F6); have F0 := H.f3 0; have F2 := H.f3 2; have F4 := H.f3 4; have F6 := H.f3 6))
      refine bodyPost_ret (results_cell_row rfl _ _ g4 29 _ (0, 0) _ rfl (H.blk 2 rfl) hu rfl (by kernel_rfl)) rfl ?_
      subst_vars
      exact ⟨⟨7, ⟨#[]⟩, [q1, q2]⟩, _, _, _, rfl, H.sel [0, 1, 3], rd_bin HT1.out HT2.out HT3.out HQ1.out (by decide) (sg_and HT4.out HT5.out) HQ2.out HT8.out⟩
    · refine ⟨_, rfl, ?_⟩
      go_wp2_with (first | ((with_reducible refine gate_dst (N := 7) rfl ?_); refine nw_ H 7 zt 29 rfl ?_; clear H; intro g7 w1 H; replace H := H.nn; (try clear F0); (try clear F2); (try clear F4); (try clear F6); have F0 := H.f3 0; have F2 := H.f3 2; have F4 := H.f3 4; have F6 := H.f3 6) | ((with_reducible refine gate_store (p := 7) rfl ?_); refine p3_ H 7 6 rfl ?_; clear H; intro w1 H; replace H := H.nn; (try clear F0); (try clear F2); (try clear F4); (try clear F6); have F0 := H.f3 0; have F2 := H.f3 2; have F4 := H.f3 4; have F6 := H.f3 6) | ((with_reducible refine gate_dst (N := 61) rfl ?_); refine gate_guard (by rfl) ?_; dsimp only; refine gL_ (some 61) Try.func71 #[.pointer (some ⟨g, 0, none⟩), .string ⟨#[41]⟩] ?_; refine (takeCall H 0 rfl HQ2.out.le HS.out 41).mono ?_; rintro e w2 ⟨r8, m8, rfl, H2, HT8⟩; clear H; have H := H2.nn; clear H2; replace HT8 := am_ HT8; (try clear F0); (try clear F2); (try clear F4); (try clear F6); have F0 := H.f3 0; have F2 := H.f3 2; have F4 := H.f3 4; have F6 := H.f3 6; refine ⟨_, rfl, ?_⟩) | ((with_reducible refine gate_store (p := 65) rfl ?_); refine p1_ H 65 0 2 rfl ?_; clear H; intro w1 H; replace H := H.nn; (try clear F0); (try clear F2); (try clear F4); (try clear F6); have F0 := H.f3 0; have F2 := H.f3 2; have F4 := H.f3 4; have F6 := H.f3 6) | ((with_reducible refine gate_dst (N := 69) rfl ?_); refine wl2_ (t1 := q1) (t2 := q2) H 69 3 5 rfl ?_; clear H; intro h w1 H; replace H := H.nn; (try clear F0); (try clear F2); (try clear F4); (try clear F6); have F0 := H.f3 0; have F2 := H.f3 2; have F4 := H.f3 4; have F6 := H.f3 6) | ((with_reducible refine gate_store (p := 4) rfl ?_); refine p3_ H 4 2 rfl ?_; clear H; intro w1 H; replace H := H.nn; (try clear F0); (try clear F2); (try clear F4); (try clear F6); have F0 := H.f3 0; have F2 := H.f3 2; have F4 := H.f3 4; have F6 := H.f3 6))
      refine bodyPost_ret (results_cell_row rfl _ _ g4 29 _ (0, 0) _ rfl (H.blk 2 rfl) hu rfl (by kernel_rfl)) rfl ?_
      subst_vars
      exact ⟨⟨7, ⟨#[]⟩, [q1, q2]⟩, _, _, _, rfl, H.sel [0, 1, 3], rd_bad HT1.out HT2.out HT3.out HQ1.out (sg_and HT4.out HT5.out) HQ2.out⟩
  · subst_vars
    cases b2
    · refine ⟨_, rfl, ?_⟩
      go_wp2_with (first | ((with_reducible refine gate_dst (N := 7) rfl ?_); refine nw_ H 7 zt 29 rfl ?_; clear H; intro g7 w1 H; replace H := H.nn; (try clear F0); (try clear F2); (try clear F4); (try clear F6); have F0 := H.f3 0; have F2 := H.f3 2; have F4 := H.f3 4; have F6 := H.f3 6) | ((with_reducible refine gate_store (p := 7) rfl ?_); refine p3_ H 7 6 rfl ?_; clear H; intro w1 H; replace H := H.nn; (try clear F0); (try clear F2); (try clear F4); (try clear F6); have F0 := H.f3 0; have F2 := H.f3 2; have F4 := H.f3 4; have F6 := H.f3 6) | ((with_reducible refine gate_dst (N := 61) rfl ?_); refine gate_guard (by rfl) ?_; dsimp only; refine gL_ (some 61) Try.func71 #[.pointer (some ⟨g, 0, none⟩), .string ⟨#[41]⟩] ?_; refine (takeCall H 0 rfl HQ2.out.le HS.out 41).mono ?_; rintro e w2 ⟨r8, m8, rfl, H2, HT8⟩; clear H; have H := H2.nn; clear H2; replace HT8 := am_ HT8; (try clear F0); (try clear F2); (try clear F4); (try clear F6); have F0 := H.f3 0; have F2 := H.f3 2; have F4 := H.f3 4; have F6 := H.f3 6; refine ⟨_, rfl, ?_⟩) | ((with_reducible refine gate_store (p := 65) rfl ?_); refine p1_ H 65 0 2 rfl ?_; clear H; intro w1 H; replace H := H.nn; (try clear F0); (try clear F2); (try clear F4); (try clear F6); have F0 := H.f3 0; have F2 := H.f3 2; have F4 := H.f3 4; have F6 := H.f3 6) | ((with_reducible refine gate_dst (N := 69) rfl ?_); refine wl2_ (t1 := q1) (t2 := q2) H 69 3 5 rfl ?_; clear H; intro h w1 H; replace H := H.nn; (try clear F0); (try clear F2); (try clear F4); (try clear F6); have F0 := H.f3 0; have F2 := H.f3 2; have F4 := H.f3 4; have F6 := H.f3 6) | ((with_reducible refine gate_store (p := 4) rfl ?_); refine p3_ H 4 2 rfl ?_; clear H; intro w1 H; replace H := H.nn; (try clear F0); (try clear F2); (try clear F4); (try clear F6); have F0 := H.f3 0; have F2 := H.f3 2; have F4 := H.f3 4; have F6 := H.f3 6))
      refine bodyPost_ret (results_cell_row rfl _ _ g4 29 _ (0, 0) _ rfl (H.blk 2 rfl) hu rfl (by kernel_rfl)) rfl ?_
      subst_vars
      exact ⟨⟨5, ⟨#[]⟩, [q1, q2]⟩, _, _, _, rfl, H.sel [0, 1, 3], rd_bin HT1.out HT2.out HT3.out HQ1.out (by decide) (sg_cat HT4.out HT5.out) HQ2.out HT8.out⟩
    · refine ⟨_, rfl, ?_⟩
      go_wp2_with (first | ((with_reducible refine gate_dst (N := 7) rfl ?_); refine nw_ H 7 zt 29 rfl ?_; clear H; intro g7 w1 H; replace H := H.nn; (try clear F0); (try clear F2); (try clear F4); (try clear F6); have F0 := H.f3 0; have F2 := H.f3 2; have F4 := H.f3 4; have F6 := H.f3 6) | ((with_reducible refine gate_store (p := 7) rfl ?_); refine p3_ H 7 6 rfl ?_; clear H; intro w1 H; replace H := H.nn; (try clear F0); (try clear F2); (try clear F4); (try clear F6); have F0 := H.f3 0; have F2 := H.f3 2; have F4 := H.f3 4; have F6 := H.f3 6) | ((with_reducible refine gate_dst (N := 61) rfl ?_); refine gate_guard (by rfl) ?_; dsimp only; refine gL_ (some 61) Try.func71 #[.pointer (some ⟨g, 0, none⟩), .string ⟨#[41]⟩] ?_; refine (takeCall H 0 rfl HQ2.out.le HS.out 41).mono ?_; rintro e w2 ⟨r8, m8, rfl, H2, HT8⟩; clear H; have H := H2.nn; clear H2; replace HT8 := am_ HT8; (try clear F0); (try clear F2); (try clear F4); (try clear F6); have F0 := H.f3 0; have F2 := H.f3 2; have F4 := H.f3 4; have F6 := H.f3 6; refine ⟨_, rfl, ?_⟩) | ((with_reducible refine gate_store (p := 65) rfl ?_); refine p1_ H 65 0 2 rfl ?_; clear H; intro w1 H; replace H := H.nn; (try clear F0); (try clear F2); (try clear F4); (try clear F6); have F0 := H.f3 0; have F2 := H.f3 2; have F4 := H.f3 4; have F6 := H.f3 6) | ((with_reducible refine gate_dst (N := 69) rfl ?_); refine wl2_ (t1 := q1) (t2 := q2) H 69 3 5 rfl ?_; clear H; intro h w1 H; replace H := H.nn; (try clear F0); (try clear F2); (try clear F4); (try clear F6); have F0 := H.f3 0; have F2 := H.f3 2; have F4 := H.f3 4; have F6 := H.f3 6) | ((with_reducible refine gate_store (p := 4) rfl ?_); refine p3_ H 4 2 rfl ?_; clear H; intro w1 H; replace H := H.nn; (try clear F0); (try clear F2); (try clear F4); (try clear F6); have F0 := H.f3 0; have F2 := H.f3 2; have F4 := H.f3 4; have F6 := H.f3 6))
      refine bodyPost_ret (results_cell_row rfl _ _ g4 29 _ (0, 0) _ rfl (H.blk 2 rfl) hu rfl (by kernel_rfl)) rfl ?_
      subst_vars
      exact ⟨⟨5, ⟨#[]⟩, [q1, q2]⟩, _, _, _, rfl, H.sel [0, 1, 3], rd_bad HT1.out HT2.out HT3.out HQ1.out (sg_cat HT4.out HT5.out) HQ2.out⟩
  · refine bodyPost_ret (results_cell_row rfl _ _ g4 29 _ (0, 0) _ rfl (H.blk 2 rfl) hu rfl (by kernel_rfl)) rfl ?_
    subst_vars
    obtain ⟨h1, h2⟩ := HQ.out
    refine ⟨q, k, b', .slice none 0 0, rfl, ?_, rd_lf HT1.out HT2.out HT3.out h2⟩
    rw [h1]
    exact (sub_nil (H.pre 2) : Sl w0 _ [rbox g s k b', p, tre (.slice none 0 0) []])
theorem nodeCalls : ∀ d : Nat, d ≤ 7 → NodeAt d (7 - d)
  | 0, _ => fun w0 w g n s b p H hn hs => by
    have h := nodeBad (z := 7 - ((0 : Nat) : Int)) H hn hs (Or.inr (by omega))
    have e : (if b = true then none else pN 0 ((bytesOf s).drop n)) = none := by cases b <;> rfl
    rw [e]
    exact h
  | d + 1, hd => fun w0 w g n s b p H hn hs => by
    cases b with
    | true => exact nodeBad H hn hs (Or.inl rfl)
    | false => exact nodeStep H hn hs (by omega) (by rw [w64 (by omega) (by omega)]; omega) (nodeCalls d (by omega))
end Go.Proofs.Ytldgkgdgcfllmaa
end
section
namespace Go.Proofs.Ytldgkgdgcfllmaa.Pl
open Go.RowKit Go.Proofs.Ytldgkgdgcfllmaa Go.Proofs.Ytldgkgdgcfllmaa.P Go.Proofs.Ytldgkgdgcfllmaa.Rk Go.Proofs.YtldgkgdgcfllmaaW.PrintWords Go.Proofs.YtldgkgdgcfllmaaW.PrintLast Go.Proofs.YtldgkgdgcfllmaaW.PrintMore
set_option linter.unusedVariables false
set_option linter.unusedSimpArgs false
def sgn (a : Int) : ByteArray := if a = 6 then ⟨#[124]⟩ else if a = 7 then ⟨#[38]⟩ else ⟨#[]⟩
theorem sgn_size (a : Int) : (sgn a).size ≤ 1 := by
  unfold sgn
  split
  · decide
  · split <;> decide
mutual
def txt : TI → ByteArray
  | ⟨a, s, l⟩ => if a = 1 then ⟨#[48]⟩ else if a = 2 then ⟨#[49]⟩ else if a = 3 then s else if a = 4 then ⟨#[46]⟩ else if a = 8 then (⟨#[42]⟩ : ByteArray) ++ (txts l).getD 0 ⟨#[]⟩ else if a = 9 then (⟨#[33]⟩ : ByteArray) ++ (txts l).getD 0 ⟨#[]⟩
    else ((((⟨#[40]⟩ : ByteArray) ++ (txts l).getD 0 ⟨#[]⟩) ++ sgn a) ++ (txts l).getD 1 ⟨#[]⟩) ++ (⟨#[41]⟩ : ByteArray)
def txts : List TI → List ByteArray
  | [] => []
  | x :: l => txt x :: txts l
end
theorem al_cases {x : TI} (h : al x = true) : ((1 ≤ x.f0 ∧ x.f0 ≤ 4 ∧ x.f2 = []) ∨ ((x.f0 = 8 ∨ x.f0 = 9) ∧ ∃ u, x.f2 = [u] ∧ al u = true) ∨ (5 ≤ x.f0 ∧ x.f0 ≤ 7 ∧ ∃ u v, x.f2 = [u, v] ∧ al u = true ∧ al v = true)) ∧ (x.f0 = 3 → x.f1.size = 1 ∧ word x.f1 = true) ∧ (x.f0 ≠ 3 → x.f1 = (⟨#[]⟩ : ByteArray)) := by
  obtain ⟨a, s, l⟩ := x
  rw [al_eq, Bool.and_eq_true] at h
  obtain ⟨h1, h2⟩ := h
  unfold shp at h2
  rw [Bool.and_eq_true, decide_eq_true_eq] at h2
  obtain ⟨h2, h3⟩ := h2
  dsimp only at *
  refine ⟨?_, fun h => ?_, fun h => ?_⟩
  · unfold argsN at h2
    match l, h1, h2 with
    | [], _, h2 =>
      left
      rw [List.length_nil] at h2
      repeat' split at h2
      all_goals (first | omega | exact ⟨by omega, by omega, rfl⟩)
    | [u], h1, h2 =>
      right; left
      rw [als, als, Bool.and_true] at h1
      simp only [List.length_cons, List.length_nil] at h2
      repeat' split at h2
      all_goals (first | omega | exact ⟨by omega, u, rfl, h1⟩)
    | [u, v], h1, h2 =>
      right; right
      rw [als, als, als, Bool.and_true, Bool.and_eq_true] at h1
      simp only [List.length_cons, List.length_nil] at h2
      repeat' split at h2
      all_goals (first | omega | exact ⟨by omega, by omega, u, v, rfl, h1.1, h1.2⟩)
    | u :: v :: z :: m, h1, h2 =>
      simp only [List.length_cons] at h2
      repeat' split at h2
      all_goals omega
  · rw [if_pos h] at h3
    simpa using h3
  · rw [if_neg h] at h3
    simpa using h3
theorem txt_size : ∀ x : TI, al x = true → (txt x).size ≤ 3 * nd x := by
  refine TI.ind fun x ih hx => ?_
  obtain ⟨h1, h3, _⟩ := al_cases hx
  obtain ⟨a, s, l⟩ := x
  rw [txt, nd]
  dsimp only at *
  rcases h1 with ⟨q1, q2, rfl⟩ | ⟨q1, u, rfl, hu⟩ | ⟨q1, q2, u, v, rfl, hu, hv⟩
  · rw [nds]
    by_cases e1 : a = 1
    · rw [if_pos e1]; exact (by decide : (1 : Nat) ≤ 3)
    · rw [if_neg e1]
      by_cases e2 : a = 2
      · rw [if_pos e2]; exact (by decide : (1 : Nat) ≤ 3)
      · rw [if_neg e2]
        by_cases e3 : a = 3
        · rw [if_pos e3]; have := h3 e3; omega
        · rw [if_neg e3, if_pos (show a = 4 by omega)]; exact (by decide : (1 : Nat) ≤ 3)
  · have iu := ih u (by simp) hu
    rw [if_neg (by omega), if_neg (by omega), if_neg (by omega), if_neg (by omega), nds, nds]
    simp only [txts, List.getD_cons_zero]
    split
    · rw [ByteArray.size_append]; have : (⟨#[42]⟩ : ByteArray).size = 1 := rfl; omega
    · rw [if_pos (by omega), ByteArray.size_append]; have : (⟨#[33]⟩ : ByteArray).size = 1 := rfl; omega
  · have iu := ih u (by simp) hu
    have iv := ih v (by simp) hv
    rw [if_neg (by omega), if_neg (by omega), if_neg (by omega), if_neg (by omega), if_neg (by omega), if_neg (by omega), nds, nds, nds]
    simp only [txts, List.getD_cons_zero, List.getD_cons_succ, ByteArray.size_append]
    have e1 : (⟨#[40]⟩ : ByteArray).size = 1 := rfl
    have e2 : (⟨#[41]⟩ : ByteArray).size = 1 := rfl
    have e3 : (sgn a).size ≤ 1 := sgn_size a
    omega
theorem spec_text : ∀ x : TI, al x = true → nd x ≤ 2000000 → Ev (fun k => spec_l3Text.f k x.f0 x.f1 x.f2) (txt x) := by
  refine TI.ind fun x ih hx hn => ?_
  obtain ⟨h1, h3, _⟩ := al_cases hx
  obtain ⟨a, s, l⟩ := x
  rw [nd] at hn
  rw [txt]
  dsimp only at *
  refine next ?_
  rcases h1 with ⟨q1, q2, rfl⟩ | ⟨q1, u, rfl, hu⟩ | ⟨q1, q2, u, v, rfl, hu, hv⟩
  · by_cases e1 : a = 1
    · simp only [spec_l3Text.f, if_pos e1]; exact Ev.now _
    · by_cases e2 : a = 2
      · simp only [spec_l3Text.f, if_neg e1, if_pos e2]; exact Ev.now _
      · by_cases e3 : a = 3
        · simp only [spec_l3Text.f, if_neg e1, if_neg e2, if_pos e3]; exact Ev.now _
        · have e4 : a = 4 := by omega
          simp only [spec_l3Text.f, if_neg e1, if_neg e2, if_neg e3, if_pos e4]; exact Ev.now _
  · rw [nds, nds] at hn
    have iu := ih u (by simp) hu (by omega)
    have su := txt_size u hu
    have r0 : rd_T29 [u] 0 = u := rfl
    simp only [spec_l3Text.f, if_neg (show ¬ a = 1 by omega), if_neg (show ¬ a = 2 by omega), if_neg (show ¬ a = 3 by omega), if_neg (show ¬ a = 4 by omega), txts, List.getD_cons_zero]
    by_cases e8 : a = 8
    · simp only [if_pos e8, if_pos (show (0 : Int) < (([u] : List TI).length : Int) by simp), r0]
      refine Ev.bind iu ?_
      simp only [if_pos (show 1 + (txt u).size ≤ 9223372036854775807 by omega)]
      exact Ev.now _
    · simp only [if_neg e8, if_pos (show a = 9 by omega), if_pos (show (0 : Int) < (([u] : List TI).length : Int) by simp), r0]
      refine Ev.bind iu ?_
      simp only [if_pos (show 1 + (txt u).size ≤ 9223372036854775807 by omega)]
      exact Ev.now _
  · rw [nds, nds, nds] at hn
    have iu := ih u (by simp) hu (by omega)
    have iv := ih v (by simp) hv (by omega)
    have su := txt_size u hu
    have sv := txt_size v hv
    have r0 : rd_T29 [u, v] 0 = u := rfl
    have r1 : rd_T29 [u, v] 1 = v := rfl
    have ew : wrap64 (a - 5) = a - 5 := w64 (by omega) (by omega)
    have es : rdOf ByteArray.empty ([(⟨#[]⟩ : ByteArray), (⟨#[124]⟩ : ByteArray), (⟨#[38]⟩ : ByteArray)] : List ByteArray) (a - 5) = sgn a := by
      rcases (by omega : a = 5 ∨ a = 6 ∨ a = 7) with rfl | rfl | rfl <;> rfl
    have e1 : (⟨#[40]⟩ : ByteArray).size = 1 := rfl
    have e3 : (sgn a).size ≤ 1 := sgn_size a
    simp only [spec_l3Text.f, if_neg (show ¬ a = 1 by omega), if_neg (show ¬ a = 2 by omega), if_neg (show ¬ a = 3 by omega), if_neg (show ¬ a = 4 by omega), if_neg (show ¬ a = 8 by omega), if_neg (show ¬ a = 9 by omega), txts, List.getD_cons_zero, List.getD_cons_succ, Option.bind_some, ew, es, if_pos (show (0 : Int) ≤ a - 5 by omega), if_pos (show a - 5 < (([(⟨#[]⟩ : ByteArray), (⟨#[124]⟩ : ByteArray), (⟨#[38]⟩ : ByteArray)] : List ByteArray).length : Int) by simp; omega), if_pos (show (0 : Int) < (([u, v] : List TI).length : Int) by simp), r0, r1]
    refine Ev.bind iu ?_
    simp only [ByteArray.size_append, e1, if_pos (show 1 + (txt u).size ≤ 9223372036854775807 by omega), if_pos (show 1 + (txt u).size + (sgn a).size ≤ 9223372036854775807 by omega), if_pos (show (1 : Int) < (([u, v] : List TI).length : Int) by simp)]
    refine Ev.bind iv ?_
    simp only [if_pos (show 1 + (txt u).size + (sgn a).size + (txt v).size ≤ 9223372036854775807 by omega), if_pos (show 1 + (txt u).size + (sgn a).size + (txt v).size + 1 ≤ 9223372036854775807 by omega)]
    exact Ev.now _
theorem impl_text : ∀ x : TI, al x = true → nd x ≤ 2000000 → Ev (fun k => impl_regexText.f k x.f0 x.f1 x.f2) (txt x) := by
  refine TI.ind fun x ih hx hn => ?_
  obtain ⟨h1, h3, _⟩ := al_cases hx
  obtain ⟨a, s, l⟩ := x
  rw [nd] at hn
  rw [txt]
  dsimp only at *
  refine next ?_
  rcases h1 with ⟨q1, q2, rfl⟩ | ⟨q1, u, rfl, hu⟩ | ⟨q1, q2, u, v, rfl, hu, hv⟩
  · by_cases e1 : a = 1
    · simp only [impl_regexText.f, if_pos e1]; exact Ev.now _
    · by_cases e2 : a = 2
      · simp only [impl_regexText.f, if_neg e1, if_pos e2]; exact Ev.now _
      · by_cases e3 : a = 3
        · simp only [impl_regexText.f, if_neg e1, if_neg e2, if_pos e3]; exact Ev.now _
        · have e4 : a = 4 := by omega
          simp only [impl_regexText.f, if_neg e1, if_neg e2, if_neg e3, if_pos e4]; exact Ev.now _
  · rw [nds, nds] at hn
    have iu := ih u (by simp) hu (by omega)
    have su := txt_size u hu
    have r0 : rd_T29 [u] 0 = u := rfl
    simp only [impl_regexText.f, if_neg (show ¬ a = 1 by omega), if_neg (show ¬ a = 2 by omega), if_neg (show ¬ a = 3 by omega), if_neg (show ¬ a = 4 by omega), txts, List.getD_cons_zero]
    by_cases e8 : a = 8
    · simp only [if_pos e8, if_pos (show (0 : Int) < (([u] : List TI).length : Int) by simp), r0]
      refine Ev.bind iu ?_
      simp only [if_pos (show 1 + (txt u).size ≤ 9223372036854775807 by omega)]
      exact Ev.now _
    · simp only [if_neg e8, if_pos (show a = 9 by omega), if_pos (show (0 : Int) < (([u] : List TI).length : Int) by simp), r0]
      refine Ev.bind iu ?_
      simp only [if_pos (show 1 + (txt u).size ≤ 9223372036854775807 by omega)]
      exact Ev.now _
  · rw [nds, nds, nds] at hn
    have iu := ih u (by simp) hu (by omega)
    have iv := ih v (by simp) hv (by omega)
    have su := txt_size u hu
    have sv := txt_size v hv
    have r0 : rd_T29 [u, v] 0 = u := rfl
    have r1 : rd_T29 [u, v] 1 = v := rfl
    have e1 : (⟨#[40]⟩ : ByteArray).size = 1 := rfl
    have e2 : (⟨#[]⟩ : ByteArray).size = 0 := rfl
    have e6 : (⟨#[124]⟩ : ByteArray).size = 1 := rfl
    have e7 : (⟨#[38]⟩ : ByteArray).size = 1 := rfl
    simp only [impl_regexText.f, if_neg (show ¬ a = 1 by omega), if_neg (show ¬ a = 2 by omega), if_neg (show ¬ a = 3 by omega), if_neg (show ¬ a = 4 by omega), if_neg (show ¬ a = 8 by omega), if_neg (show ¬ a = 9 by omega), txts, List.getD_cons_zero, List.getD_cons_succ, if_pos (show (0 : Int) < (([u, v] : List TI).length : Int) by simp), if_pos (show (1 : Int) < (([u, v] : List TI).length : Int) by simp), r0, r1]
    unfold sgn
    by_cases h6 : a = 6
    · simp only [if_pos h6]
      refine Ev.bind iu ?_
      simp only [ByteArray.size_append, e1, e6, if_pos (show 1 + (txt u).size ≤ 9223372036854775807 by omega), if_pos (show 1 + (txt u).size + 1 ≤ 9223372036854775807 by omega)]
      refine Ev.bind iv ?_
      simp only [if_pos (show 1 + (txt u).size + 1 + (txt v).size ≤ 9223372036854775807 by omega), if_pos (show 1 + (txt u).size + 1 + (txt v).size + 1 ≤ 9223372036854775807 by omega)]
      exact Ev.now _
    · by_cases h7 : a = 7
      · simp only [if_neg h6, if_pos h7]
        refine Ev.bind iu ?_
        simp only [ByteArray.size_append, e1, e7, if_pos (show 1 + (txt u).size ≤ 9223372036854775807 by omega), if_pos (show 1 + (txt u).size + 1 ≤ 9223372036854775807 by omega)]
        refine Ev.bind iv ?_
        simp only [if_pos (show 1 + (txt u).size + 1 + (txt v).size ≤ 9223372036854775807 by omega), if_pos (show 1 + (txt u).size + 1 + (txt v).size + 1 ≤ 9223372036854775807 by omega)]
        exact Ev.now _
      · simp only [if_neg h6, if_neg h7]
        refine Ev.bind iu ?_
        simp only [ByteArray.size_append, e1, e2, if_pos (show 1 + (txt u).size ≤ 9223372036854775807 by omega), if_pos (show 1 + (txt u).size + 0 ≤ 9223372036854775807 by omega)]
        refine Ev.bind iv ?_
        simp only [if_pos (show 1 + (txt u).size + 0 + (txt v).size ≤ 9223372036854775807 by omega), if_pos (show 1 + (txt u).size + 0 + (txt v).size + 1 ≤ 9223372036854775807 by omega)]
        exact Ev.now _
def fmtR (x : TI) : ByteArray := if validR x = true then txt x else ⟨#[]⟩
theorem validR_al {x : TI} (h : validR x = true) : al x = true ∧ nd x ≤ 16 ∧ dp x ≤ 6 := by
  unfold validR at h
  simp only [Bool.and_eq_true, decide_eq_true_eq] at h
  exact ⟨h.2, h.1.1, h.1.2⟩
theorem spec_fmt (x : TI) (hx : Thin x) (hn : nd x ≤ 2000000) : Ev (fun k => spec_FormatRegex.f k x.f0 x.f1 x.f2) (fmtR x) := by
  simp only [spec_FormatRegex.f]
  refine Ev.bind (spec_validR x hx hn) ?_
  unfold fmtR
  by_cases h : validR x = true
  · simp only [h, if_true]
    refine Ev.bind (spec_text x (validR_al h).1 hn) ?_
    exact Ev.now _
  · simp only [Bool.not_eq_true] at h
    simp only [h, Bool.false_eq_true, if_false]
    exact Ev.now _
theorem impl_fmt (x : TI) (hx : Thin x) (hn : nd x ≤ 2000000) : Ev (fun k => impl_FormatRegex.f k x.f0 x.f1 x.f2) (fmtR x) := by
  simp only [impl_FormatRegex.f]
  refine Ev.bind (impl_validR x hx) ?_
  unfold fmtR
  by_cases h : validR x = true
  · simp only [h, if_true]
    refine Ev.bind (impl_text x (validR_al h).1 hn) ?_
    exact Ev.now _
  · simp only [Bool.not_eq_true] at h
    simp only [h, Bool.false_eq_true, if_false]
    exact Ev.now _
end Go.Proofs.Ytldgkgdgcfllmaa.Pl
end
section
namespace Go.Proofs.Ytldgkgdgcfllmaa.Rg
open Go.RowKit Go.Proofs.Ytldgkgdgcfllmaa Go.Proofs.Ytldgkgdgcfllmaa.P Go.Proofs.Ytldgkgdgcfllmaa.Rk Go.Proofs.YtldgkgdgcfllmaaW.PrintWords Go.Proofs.YtldgkgdgcfllmaaW.PrintLast Go.Proofs.YtldgkgdgcfllmaaW.PrintMore
set_option linter.unusedVariables false
set_option linter.unusedSimpArgs false
theorem bytes_app (a b : ByteArray) : bytesOf (a ++ b) = bytesOf a ++ bytesOf b := by
  simp only [bytesOf, ByteArray.data_append, Array.toList_append, List.map_append]
def TxtOk (l : List Int) (x : Rx × List Int) : Prop := Lt x.1 ∧ sz x.1 + x.2.length ≤ l.length ∧ bytesOf (Pl.txt (tr x.1)) ++ x.2 = l
theorem txt_un (k : Int) (c : UInt8) (y : Tr) (h : (k = 8 ∧ c = 42) ∨ (k = 9 ∧ c = 33)) : bytesOf (Pl.txt ⟨k, ⟨#[]⟩, [y]⟩) = (c.toNat : Int) :: bytesOf (Pl.txt y) := by
  rcases h with ⟨rfl, rfl⟩ | ⟨rfl, rfl⟩
  · rw [Pl.txt]; first | (simp [Pl.txts, bytes_app]; done) | (simp [Pl.txts, bytes_app]; rfl)
  · rw [Pl.txt]; first | (simp [Pl.txts, bytes_app]; done) | (simp [Pl.txts, bytes_app]; rfl)
theorem txt_bin (k : Int) (x y : Tr) (h : k = 5 ∨ k = 6 ∨ k = 7) : bytesOf (Pl.txt ⟨k, ⟨#[]⟩, [x, y]⟩) = 40 :: (bytesOf (Pl.txt x) ++ bytesOf (Pl.sgn k) ++ bytesOf (Pl.txt y) ++ [41]) := by
  rcases h with rfl | rfl | rfl
  · rw [Pl.txt]; first | (simp [Pl.txts, bytes_app]; done) | (simp [Pl.txts, bytes_app]; rfl)
  · rw [Pl.txt]; first | (simp [Pl.txts, bytes_app]; done) | (simp [Pl.txts, bytes_app]; rfl)
  · rw [Pl.txt]; first | (simp [Pl.txts, bytes_app]; done) | (simp [Pl.txts, bytes_app]; rfl)
theorem sgn_txt (l : List Int) : ((sgn l).1 = 5 ∨ (sgn l).1 = 6 ∨ (sgn l).1 = 7) ∧ bytesOf (Pl.sgn (sgn l).1) ++ (sgn l).2 = l := by
  cases l with
  | nil => exact ⟨Or.inl rfl, rfl⟩
  | cons c t =>
    simp only [sgn]
    by_cases h1 : c = 124
    · subst h1; exact ⟨Or.inr (Or.inl rfl), rfl⟩
    · rw [if_neg h1]
      by_cases h2 : c = 38
      · subst h2; exact ⟨Or.inr (Or.inr rfl), rfl⟩
      · rw [if_neg h2]; exact ⟨Or.inl rfl, rfl⟩
theorem pN_ok : ∀ (d : Nat) (l : List Int) (x : Rx × List Int), pN d l = some x → TxtOk l x
  | 0, _, _, h => by cases h
  | _ + 1, [], _, h => by cases h
  | d + 1, b :: t, x, h => by
    simp only [pN] at h
    by_cases h1 : b = 48
    · rw [if_pos h1] at h; subst h1; rw [← Option.some.inj h]; exact ⟨trivial, by simp [sz]; omega, rfl⟩
    rw [if_neg h1] at h
    by_cases h1 : b = 49
    · rw [if_pos h1] at h; subst h1; rw [← Option.some.inj h]; exact ⟨trivial, by simp [sz]; omega, rfl⟩
    rw [if_neg h1] at h
    by_cases h1 : b = 46
    · rw [if_pos h1] at h; subst h1; rw [← Option.some.inj h]; exact ⟨trivial, by simp [sz]; omega, rfl⟩
    rw [if_neg h1] at h
    by_cases h1 : b = 97 ∨ b = 98 ∨ b = 99
    · rw [if_pos h1] at h; rw [← Option.some.inj h]
      refine ⟨rfl, by simp [sz]; omega, ?_⟩
      rcases h1 with rfl | rfl | rfl <;> rfl
    rw [if_neg h1] at h
    by_cases h1 : b = 42
    · rw [if_pos h1] at h; subst h1
      obtain ⟨y, h1, h2⟩ := Option.map_eq_some_iff.1 h
      obtain ⟨g1, g2, g3⟩ := pN_ok d t y h1
      rw [← h2]
      refine ⟨g1, by simp only [sz, List.length_cons]; omega, ?_⟩
      show bytesOf (Pl.txt ⟨8, ⟨#[]⟩, [tr y.1]⟩) ++ y.2 = 42 :: t
      rw [txt_un 8 42 _ (Or.inl ⟨rfl, rfl⟩), ← g3]
      rfl
    rw [if_neg h1] at h
    by_cases h1 : b = 33
    · rw [if_pos h1] at h; subst h1
      obtain ⟨y, h1, h2⟩ := Option.map_eq_some_iff.1 h
      obtain ⟨g1, g2, g3⟩ := pN_ok d t y h1
      rw [← h2]
      refine ⟨g1, by simp only [sz, List.length_cons]; omega, ?_⟩
      show bytesOf (Pl.txt ⟨9, ⟨#[]⟩, [tr y.1]⟩) ++ y.2 = 33 :: t
      rw [txt_un 9 33 _ (Or.inr ⟨rfl, rfl⟩), ← g3]
      rfl
    rw [if_neg h1] at h
    by_cases h1 : b = 40
    · rw [if_pos h1] at h; subst h1
      obtain ⟨y, h1, h2⟩ := Option.bind_eq_some_iff.1 h
      obtain ⟨z, h3, h4⟩ := Option.bind_eq_some_iff.1 h2
      obtain ⟨g1, g2, g3⟩ := pN_ok d t y h1
      obtain ⟨k1, k2, k3⟩ := pN_ok d _ z h3
      obtain ⟨s1, s2⟩ := sgn_txt y.2
      have s3 := sgn_len y.2
      cases hm : z.2 with
      | nil => rw [hm] at h4; cases h4
      | cons c m =>
        rw [hm] at h4 k2 k3
        by_cases h5 : c = 41
        · simp only [if_pos h5] at h4
          subst h5
          rw [← Option.some.inj h4]
          have e : tr (op2 (sgn y.2).1 y.1 z.1) = ⟨(sgn y.2).1, ⟨#[]⟩, [tr y.1, tr z.1]⟩ ∧ Lt (op2 (sgn y.2).1 y.1 z.1) ∧ sz (op2 (sgn y.2).1 y.1 z.1) = 1 + sz y.1 + sz z.1 := by
            generalize (sgn y.2).1 = k at s1
            rcases s1 with rfl | rfl | rfl
            · exact ⟨rfl, ⟨g1, k1⟩, by simp only [op2, if_true, sz]⟩
            · exact ⟨rfl, ⟨g1, k1⟩, by simp only [op2, sz]; rfl⟩
            · exact ⟨rfl, ⟨g1, k1⟩, by simp only [op2, sz]; rfl⟩
          refine ⟨e.2.1, by simp only [List.length_cons] at k2 ⊢; rw [e.2.2]; omega, ?_⟩
          show bytesOf (Pl.txt (tr (op2 (sgn y.2).1 y.1 z.1))) ++ m = 40 :: t
          rw [e.1, txt_bin _ _ _ s1, ← g3]
          have : (bytesOf (Pl.txt (tr z.1)) ++ 41 :: m) = (sgn y.2).2 := k3
          rw [← this] at s2
          generalize bytesOf (Pl.sgn (sgn y.2).1) = S at s2 ⊢
          rw [← s2]
          simp [List.append_assoc]
        · simp only [if_neg h5] at h4
          cases h4
    · rw [if_neg h1] at h; cases h
abbrev zeroT : Tr := ⟨0, ⟨#[]⟩, []⟩
def prR (s : ByteArray) : Bool × Tr := match pN 6 (bytesOf s) with
  | some (x, []) => if Pl.validR (tr x) = true then (true, tr x) else (false, zeroT)
  | _ => (false, zeroT)
end Go.Proofs.Ytldgkgdgcfllmaa.Rg
end
section
namespace Go.Proofs.Ytldgkgdgcfllmaa.P
open Go.RowKit Go.Proofs.YtldgkgdgcfllmaaW.PrintWords Go.Proofs.YtldgkgdgcfllmaaW.PrintLast Go.Proofs.YtldgkgdgcfllmaaW.PrintMore
attribute [local go_sem] max2_int min2_int max_two min_two max_three min_three max_four min_four
set_option linter.unusedVariables false
set_option linter.unusedSimpArgs false
end Go.Proofs.Ytldgkgdgcfllmaa.P
end
section
namespace Go.Proofs.Ytldgkgdgcfllmaa
open Go.RowKit Go.Shelf Go.Proofs.Ytldgkgdgcfllmaa.P Go.Proofs.Ytldgkgdgcfllmaa.Pl Go.Proofs.Ytldgkgdgcfllmaa.Rg Go.Proofs.YtldgkgdgcfllmaaW.PrintWords Go.Proofs.YtldgkgdgcfllmaaW.PrintLast Go.Proofs.YtldgkgdgcfllmaaW.PrintMore
set_option linter.unusedVariables false
set_option linter.unusedSimpArgs false
mutual
def cnt : Tr → Nat
  | ⟨_, _, cs⟩ => 1 + cnts cs
def cnts : List Tr → Nat
  | [] => 0
  | t :: ts => cnt t + cnts ts
end
theorem cnt_eq (t : Tr) : cnt t = 1 + cnts t.f2 := by cases t; rw [cnt]
end Go.Proofs.Ytldgkgdgcfllmaa
end
section
namespace Go.Proofs.Ytldgkgdgcfllmaa
open Go.RowKit Go.Shelf Go.Proofs.Ytldgkgdgcfllmaa.P Go.Proofs.Ytldgkgdgcfllmaa.Pl Go.Proofs.Ytldgkgdgcfllmaa.Rg Go.Proofs.Ytldgkgdgcfllmaa.Rk Go.Proofs.YtldgkgdgcfllmaaW.PrintWords Go.Proofs.YtldgkgdgcfllmaaW.PrintLast Go.Proofs.YtldgkgdgcfllmaaW.PrintMore
set_option linter.unusedVariables false
set_option linter.unusedSimpArgs false
theorem Sl.rd {w0 w : World} {ps : List Pc} {A : Option Addr} {n c : Nat} {ts : List Tr} (H : Sl w0 w ps) (i : Nat) (hi : ps[i]? = some (tre (.slice A n c) ts) := by rfl) : ts.length ≤ c ∧ Kd.C k29 w A ts.length ts := by
  obtain ⟨A', c', e, h1, h2⟩ := H.tv i hi
  injection e with e1 e2 e3
  subst e1
  subst e3
  exact ⟨h1, h2⟩
end Go.Proofs.Ytldgkgdgcfllmaa
end
section
namespace Go.Proofs.Ytldgkgdgcfllmaa
open Go.RowKit Go.Shelf Go.Proofs.Ytldgkgdgcfllmaa.P Go.Proofs.Ytldgkgdgcfllmaa.Pl Go.Proofs.Ytldgkgdgcfllmaa.Rg Go.Proofs.Ytldgkgdgcfllmaa.Rk Go.Proofs.YtldgkgdgcfllmaaW.PrintWords Go.Proofs.YtldgkgdgcfllmaaW.PrintLast Go.Proofs.YtldgkgdgcfllmaaW.PrintMore
set_option linter.unusedVariables false
set_option linter.unusedSimpArgs false
theorem thin_tr : ∀ y : Rx, Lt y → Thin (tr y) ∧ cnt (tr y) = sz y
  | .none, _ => ⟨Thin.mk _ (by simp [tr]) (by show (⟨#[]⟩ : ByteArray).size ≤ _; decide) (fun y hy => by simp [tr] at hy), by simp [tr, cnt, cnts, sz]⟩
  | .empty, _ => ⟨Thin.mk _ (by simp [tr]) (by show (⟨#[]⟩ : ByteArray).size ≤ _; decide) (fun y hy => by simp [tr] at hy), by simp [tr, cnt, cnts, sz]⟩
  | .any, _ => ⟨Thin.mk _ (by simp [tr]) (by show (⟨#[]⟩ : ByteArray).size ≤ _; decide) (fun y hy => by simp [tr] at hy), by simp [tr, cnt, cnts, sz]⟩
  | .letter l, h => ⟨Thin.mk _ (by simp [tr]) (by have h1 : l.size = 1 := h; show l.size ≤ _; omega) (fun y hy => by simp [tr] at hy), by simp [tr, cnt, cnts, sz]⟩
  | .cat x y, h => by
    have h1 := thin_tr x h.1
    have h2 := thin_tr y h.2
    exact ⟨Thin.mk _ (by simp [tr]) (by show (⟨#[]⟩ : ByteArray).size ≤ _; decide) (fun z hz => by simp only [tr, List.mem_cons, List.not_mem_nil, or_false] at hz; rcases hz with rfl | rfl; exact h1.1; exact h2.1), by simp only [tr, cnt, cnts, sz]; omega⟩
  | .or x y, h => by
    have h1 := thin_tr x h.1
    have h2 := thin_tr y h.2
    exact ⟨Thin.mk _ (by simp [tr]) (by show (⟨#[]⟩ : ByteArray).size ≤ _; decide) (fun z hz => by simp only [tr, List.mem_cons, List.not_mem_nil, or_false] at hz; rcases hz with rfl | rfl; exact h1.1; exact h2.1), by simp only [tr, cnt, cnts, sz]; omega⟩
  | .and x y, h => by
    have h1 := thin_tr x h.1
    have h2 := thin_tr y h.2
    exact ⟨Thin.mk _ (by simp [tr]) (by show (⟨#[]⟩ : ByteArray).size ≤ _; decide) (fun z hz => by simp only [tr, List.mem_cons, List.not_mem_nil, or_false] at hz; rcases hz with rfl | rfl; exact h1.1; exact h2.1), by simp only [tr, cnt, cnts, sz]; omega⟩
  | .star x, h => by
    have h1 := thin_tr x h
    exact ⟨Thin.mk _ (by simp [tr]) (by show (⟨#[]⟩ : ByteArray).size ≤ _; decide) (fun z hz => by simp only [tr, List.mem_cons, List.not_mem_nil, or_false] at hz; rw [hz]; exact h1.1), by simp only [tr, cnt, cnts, sz]; omega⟩
  | .not x, h => by
    have h1 := thin_tr x h
    exact ⟨Thin.mk _ (by simp [tr]) (by show (⟨#[]⟩ : ByteArray).size ≤ _; decide) (fun z hz => by simp only [tr, List.mem_cons, List.not_mem_nil, or_false] at hz; rw [hz]; exact h1.1), by simp only [tr, cnt, cnts, sz]; omega⟩
end Go.Proofs.Ytldgkgdgcfllmaa
end
