/- Texts of the proof of FnRegexText, put together. No condition. -/
import Derived.Test.YtldgkgdgcfllmaaQFnRegexText3
import Derived.Test.YtldgkgdgcfllmaaQFnRegexText10
import Derived.Test.YtldgkgdgcfllmaaQFnRegexText11
import Derived.Test.YtldgkgdgcfllmaaQFnRegexText5
import Derived.Test.YtldgkgdgcfllmaaQFnRegexText6
import Derived.Test.YtldgkgdgcfllmaaQFnRegexText8
section
namespace Go.Proofs.Ytldgkgdgcfllmaa
open Go.RowKit Go.Shelf Go.Proofs.Ytldgkgdgcfllmaa.P Go.Proofs.Ytldgkgdgcfllmaa.Pl Go.Proofs.Ytldgkgdgcfllmaa.Rg Go.Proofs.Ytldgkgdgcfllmaa.Rk Go.Proofs.YtldgkgdgcfllmaaW.PrintWords Go.Proofs.YtldgkgdgcfllmaaW.PrintLast Go.Proofs.YtldgkgdgcfllmaaW.PrintMore
set_option linter.unusedVariables false
set_option linter.unusedSimpArgs false
abbrev PP (w : World) (s : ByteArray) (e : Ending) (w' : World) : Prop := ∃ v, e = .returned (.tuple #[.agg #[.int .i64 (prR s).2.f0, .string (prR s).2.f1, v], .bool (prR s).1]) ∧ Sl w w' [tre v (prR s).2.f2]
theorem ne_size {s : ByteArray} {k : Nat} {c0 : Int} {l : List Int} (h : (bytesOf s).drop k = c0 :: l) : ((k : Int) == (s.size : Int)) = false ∧ ((k : Int) = (s.size : Int)) = False := by
  have hk : k ≠ s.size := fun e => by
    rw [List.drop_eq_nil_of_le (by rw [len_bytes]; omega)] at h
    cases h
  exact ⟨by simp; omega, eq_false (by omega)⟩
theorem rd_top {s : ByteArray} {k : Nat} {b : Bool} {q : Tr} (h : RdR (if false = true then none else pN 6 ((bytesOf s).drop 0)) s k b q) : k ≤ s.size ∧ match pN 6 (bytesOf s) with
    | some x => b = false ∧ q = tr x.1 ∧ (bytesOf s).drop k = x.2
    | none => b = true := by
  rw [if_neg (by decide), List.drop_zero] at h
  exact ⟨h.le, h.ok⟩
theorem nd_cnt : ∀ t : Tr, Pl.nd t = cnt t := TI.ind fun x ih => by
  rw [Pl.nd_eq, cnt_eq]
  have : ∀ l : List Tr, (∀ y ∈ l, Pl.nd y = cnt y) → Pl.nds l = cnts l := by
    intro l
    induction l with
    | nil => intro _; rw [Pl.nds, cnts]
    | cons a l ihl => intro h; rw [Pl.nds, cnts, h a (by simp), ihl (fun y hy => h y (by simp [hy]))]
  rw [this x.f2 ih]
theorem parsed_thin {s : ByteArray} {x : Rx} {l : List Int} (h : pN 6 (bytesOf s) = some (x, l)) (hs : s.size ≤ 1048576) : Thin (tr x) ∧ Pl.nd (tr x) ≤ 2000000 ∧ cnt (tr x) ≤ 1048576 := by
  obtain ⟨h1, h2, h3⟩ := pN_ok 6 _ _ h
  have h4 := thin_tr x h1
  rw [len_bytes] at h2
  have h2 : sz x + l.length ≤ s.size := h2
  exact ⟨h4.1, by have := nd_cnt (tr x); omega, by omega⟩
set_option maxHeartbeats 40000000 in
set_option maxRecDepth 100000 in
theorem prImpl (s : ByteArray) (hs : s.size ≤ 1048576) (w : World) : Calls Try.prog 22 #[.string s] w (PP w s) := by
  have H := Sl.start w
  have hu := Try.underlying29
  have HS : Aside0 (s.size ≤ 140737488351232) := ⟨by omega⟩
  cases hp : pN 6 (bytesOf s) with
  | none =>
    have HR : Aside0 (prR s = (false, zeroT)) := ⟨by simp only [prR, hp]⟩
    have HP := am_ hp
    clear hp hs
    go_enter Try.func22, Try.ntmps22
    go_wp2_with (first | ((with_reducible refine gate_dst (N := 2) rfl ?_); refine nw_ H 2 zt 29 rfl ?_; clear H; intro g2 w1 H; replace H := H.nn; (try clear F0); (try clear F1); (try clear F2); (try clear F3); have F0 := H.f3 0) | ((with_reducible refine gate_dst (N := 9) rfl ?_); refine gL_ (some 9) Try.func48 #[.string s, .int .i64 ((6 : Nat) : Int)] ?_; refine (readCalls 6 (by omega) s _ HS.out).mono ?_; rintro e w2 ⟨v, q, rest, ok, rfl, H2, -, hm⟩; rw [HP.out] at hm; obtain rfl : ok = false := hm; obtain ⟨A, c, rfl, -, -⟩ := H2.tv 0; replace H := (H.call H2).nn; clear H2; (try clear F0); (try clear F1); (try clear F2); (try clear F3); have F0 := H.f3 0; refine ⟨_, rfl, ?_⟩) | ((with_reducible refine gate_dst (N := 4) rfl ?_); refine nw_ H 4 zt 29 rfl ?_; clear H; intro g4 w1 H; replace H := H.nn; (try clear F0); (try clear F1); (try clear F2); (try clear F3); have F0 := H.f3 0; have F2 := H.f3 2) | ((with_reducible refine gate_store (p := 4) rfl ?_); refine p3_ H 4 2 rfl ?_; clear H; intro w1 H; replace H := H.nn; (try clear F0); (try clear F1); (try clear F2); (try clear F3); have F0 := H.f3 0; have F2 := H.f3 2) | ((with_reducible refine gate_store (p := 2) rfl ?_); refine p3_ H 2 0 rfl ?_; clear H; intro w1 H; replace H := H.nn; (try clear F0); (try clear F1); (try clear F2); (try clear F3); have F0 := H.f3 0; have F2 := H.f3 2))
    refine bodyPost_ret (results_ct rfl _ _ g2 29 _ (0, 0) _ rfl (H.blk 0 rfl) hu rfl (by kernel_rfl)) rfl ?_
    show ∃ v, _ = Ending.returned (.tuple #[.agg #[.int .i64 (prR s).2.f0, .string (prR s).2.f1, v], .bool (prR s).1]) ∧ Sl w _ [tre v (prR s).2.f2]
    rw [HR.out]
    exact ⟨_, rfl, (sub_nil H).one 3⟩
  | some x2 =>
  obtain ⟨x, l⟩ := x2
  have hthin := parsed_thin hp hs
  have htxt := (pN_ok 6 _ _ hp).2.2
  have hlen := pN_len 6 _ _ hp
  cases l with
  | cons c0 l =>
    have HR : Aside0 (prR s = (false, zeroT)) := ⟨by simp only [prR, hp]⟩
    have HP := am_ hp
    clear hp hs hthin htxt hlen
    go_enter Try.func22, Try.ntmps22
    go_wp2_with (first | ((with_reducible refine gate_dst (N := 2) rfl ?_); refine nw_ H 2 zt 29 rfl ?_; clear H; intro g2 w1 H; replace H := H.nn; (try clear F0); (try clear F1); (try clear F2); (try clear F3); have F0 := H.f3 0) | ((with_reducible refine gate_dst (N := 9) rfl ?_); refine gL_ (some 9) Try.func48 #[.string s, .int .i64 ((6 : Nat) : Int)] ?_; refine (readCalls 6 (by omega) s _ HS.out).mono ?_; rintro e w2 ⟨v, q, rest, ok, rfl, H2, -, hm⟩; rw [HP.out] at hm; obtain ⟨rfl, rfl, hrest⟩ := hm; have i1 := isN (show rest.size ≠ 0 from fun e => by have := congrArg List.length hrest; rw [len_bytes, e] at this; cases this); have i2 := eq_false i1; clear hrest i1; obtain ⟨A, c, rfl, -, -⟩ := H2.tv 0; replace H := (H.call H2).nn; clear H2; (try clear F0); (try clear F1); (try clear F2); (try clear F3); have F0 := H.f3 0; refine ⟨_, rfl, ?_⟩) | ((with_reducible refine gate_dst (N := 4) rfl ?_); refine nw_ H 4 zt 29 rfl ?_; clear H; intro g4 w1 H; replace H := H.nn; (try clear F0); (try clear F1); (try clear F2); (try clear F3); have F0 := H.f3 0; have F2 := H.f3 2) | ((with_reducible refine gate_store (p := 4) rfl ?_); refine p3_ H 4 2 rfl ?_; clear H; intro w1 H; replace H := H.nn; (try clear F0); (try clear F1); (try clear F2); (try clear F3); have F0 := H.f3 0; have F2 := H.f3 2) | ((with_reducible refine gate_store (p := 2) rfl ?_); refine p3_ H 2 0 rfl ?_; clear H; intro w1 H; replace H := H.nn; (try clear F0); (try clear F1); (try clear F2); (try clear F3); have F0 := H.f3 0; have F2 := H.f3 2))
    refine bodyPost_ret (results_ct rfl _ _ g2 29 _ (0, 0) _ rfl (H.blk 0 rfl) hu rfl (by kernel_rfl)) rfl ?_
    show ∃ v, _ = Ending.returned (.tuple #[.agg #[.int .i64 (prR s).2.f0, .string (prR s).2.f1, v], .bool (prR s).1]) ∧ Sl w _ [tre v (prR s).2.f2]
    rw [HR.out]
    exact ⟨_, rfl, (sub_nil H).one 3⟩
  | nil =>
    have hz : s.size ≠ 0 := fun e => by
      have h0 : (bytesOf s).length = 0 := by rw [len_bytes]; exact e
      rw [h0] at hlen
      exact absurd hlen (by simp)
    have htx : Pl.txt (tr x) = s := bytes_inj (by rw [← htxt, List.append_nil])
    obtain ⟨kv, hv⟩ := (Pl.impl_validR (tr x) hthin.1).rounds
    by_cases hval : Pl.validR (tr x) = true
    · have HR : Aside0 (prR s = (true, tr x)) := ⟨by simp only [prR, hp, if_pos hval]⟩
      rw [hval] at hv
      have HP := am_ hp
      have HV := am_ hv
      clear hp hs hthin htxt hlen hz htx hval hv
      go_enter Try.func22, Try.ntmps22
      go_wp2_with (first | ((with_reducible refine gate_dst (N := 2) rfl ?_); refine nw_ H 2 zt 29 rfl ?_; clear H; intro g2 w1 H; replace H := H.nn; (try clear F0); (try clear F1); (try clear F2); (try clear F3); have F0 := H.f3 0) | ((with_reducible refine gate_dst (N := 9) rfl ?_); refine gL_ (some 9) Try.func48 #[.string s, .int .i64 ((6 : Nat) : Int)] ?_; refine (readCalls 6 (by omega) s _ HS.out).mono ?_; rintro e w2 ⟨v, q, rest, ok, rfl, H2, -, hm⟩; rw [HP.out] at hm; obtain ⟨rfl, rfl, hrest⟩ := hm; obtain rfl : rest = ⟨#[]⟩ := bytes_inj hrest; clear hrest; obtain ⟨A, c, rfl, -, -⟩ := H2.tv 0; replace H := (H.call H2).nn; clear H2; (try clear F0); (try clear F1); (try clear F2); (try clear F3); have F0 := H.f3 0; refine ⟨_, rfl, ?_⟩) | ((with_reducible refine gate_dst (N := 4) rfl ?_); refine nw_ H 4 zt 29 rfl ?_; clear H; intro g4 w1 H; replace H := H.nn; (try clear F0); (try clear F1); (try clear F2); (try clear F3); have F0 := H.f3 0; have F2 := H.f3 2) | ((with_reducible refine gate_store (p := 4) rfl ?_); refine p3_ H 4 2 rfl ?_; clear H; intro w1 H; replace H := H.nn; (try clear F0); (try clear F1); (try clear F2); (try clear F3); have F0 := H.f3 0; have F2 := H.f3 2) | ((with_reducible refine gate_dst (N := 21) rfl ?_); refine gate_guard (by rfl) ?_; dsimp only; refine gL_ (some 21) Try.func18 #[tv (tr x) A c] ?_; refine (impl_IsValidRegex.calls kv _ _ A c _ _ _ (H.rd 1).2 (H.rd 1).1 HV.out).mono ?_; rintro e w2 ⟨rfl, hb⟩; replace H := H.only hb; clear hb; (try clear F0); (try clear F1); (try clear F2); (try clear F3); have F0 := H.f3 0; have F2 := H.f3 2; refine ⟨_, rfl, ?_⟩) | ((with_reducible refine gate_store (p := 2) rfl ?_); refine p3_ H 2 0 rfl ?_; clear H; intro w1 H; replace H := H.nn; (try clear F0); (try clear F1); (try clear F2); (try clear F3); have F0 := H.f3 0; have F2 := H.f3 2))
      refine bodyPost_ret (results_ct rfl _ _ g2 29 _ (0, 0) _ rfl (H.blk 0 rfl) hu rfl (by kernel_rfl)) rfl ?_
      show ∃ v, _ = Ending.returned (.tuple #[.agg #[.int .i64 (prR s).2.f0, .string (prR s).2.f1, v], .bool (prR s).1]) ∧ Sl w _ [tre v (prR s).2.f2]
      rw [HR.out]
      exact ⟨_, rfl, H.one 1⟩
    · have hval2 : Pl.validR (tr x) = false := by simpa using hval
      have HR : Aside0 (prR s = (false, zeroT)) := ⟨by simp only [prR, hp, hval2]; rfl⟩
      rw [hval2] at hv
      have HP := am_ hp
      have HV := am_ hv
      clear hp hs hthin htxt hlen hz htx hval hval2 hv
      go_enter Try.func22, Try.ntmps22
      go_wp2_with (first | ((with_reducible refine gate_dst (N := 2) rfl ?_); refine nw_ H 2 zt 29 rfl ?_; clear H; intro g2 w1 H; replace H := H.nn; (try clear F0); (try clear F1); (try clear F2); (try clear F3); have F0 := H.f3 0) | ((with_reducible refine gate_dst (N := 9) rfl ?_); refine gL_ (some 9) Try.func48 #[.string s, .int .i64 ((6 : Nat) : Int)] ?_; refine (readCalls 6 (by omega) s _ HS.out).mono ?_; rintro e w2 ⟨v, q, rest, ok, rfl, H2, -, hm⟩; rw [HP.out] at hm; obtain ⟨rfl, rfl, hrest⟩ := hm; obtain rfl : rest = ⟨#[]⟩ := bytes_inj hrest; clear hrest; obtain ⟨A, c, rfl, -, -⟩ := H2.tv 0; replace H := (H.call H2).nn; clear H2; (try clear F0); (try clear F1); (try clear F2); (try clear F3); have F0 := H.f3 0; refine ⟨_, rfl, ?_⟩) | ((with_reducible refine gate_dst (N := 4) rfl ?_); refine nw_ H 4 zt 29 rfl ?_; clear H; intro g4 w1 H; replace H := H.nn; (try clear F0); (try clear F1); (try clear F2); (try clear F3); have F0 := H.f3 0; have F2 := H.f3 2) | ((with_reducible refine gate_store (p := 4) rfl ?_); refine p3_ H 4 2 rfl ?_; clear H; intro w1 H; replace H := H.nn; (try clear F0); (try clear F1); (try clear F2); (try clear F3); have F0 := H.f3 0; have F2 := H.f3 2) | ((with_reducible refine gate_dst (N := 21) rfl ?_); refine gate_guard (by rfl) ?_; dsimp only; refine gL_ (some 21) Try.func18 #[tv (tr x) A c] ?_; refine (impl_IsValidRegex.calls kv _ _ A c _ _ _ (H.rd 1).2 (H.rd 1).1 HV.out).mono ?_; rintro e w2 ⟨rfl, hb⟩; replace H := H.only hb; clear hb; (try clear F0); (try clear F1); (try clear F2); (try clear F3); have F0 := H.f3 0; have F2 := H.f3 2; refine ⟨_, rfl, ?_⟩) | ((with_reducible refine gate_store (p := 2) rfl ?_); refine p3_ H 2 0 rfl ?_; clear H; intro w1 H; replace H := H.nn; (try clear F0); (try clear F1); (try clear F2); (try clear F3); have F0 := H.f3 0; have F2 := H.f3 2))
      refine bodyPost_ret (results_ct rfl _ _ g2 29 _ (0, 0) _ rfl (H.blk 0 rfl) hu rfl (by kernel_rfl)) rfl ?_
      show ∃ v, _ = Ending.returned (.tuple #[.agg #[.int .i64 (prR s).2.f0, .string (prR s).2.f1, v], .bool (prR s).1]) ∧ Sl w _ [tre v (prR s).2.f2]
      rw [HR.out]
      exact ⟨_, rfl, (sub_nil H).one 3⟩
set_option maxHeartbeats 40000000 in
set_option maxRecDepth 100000 in
theorem prSpec (s : ByteArray) (hs : s.size ≤ 1048576) (w : World) : Calls Try.prog 21 #[.string s] w (PP w s) := by
  have H := Sl.start w
  have hu := Try.underlying29
  have hu2 := Try.underlying57
  have HNode : Aside0 (NodeAt 6 1) := ⟨nodeCalls 6 (by omega)⟩
  have HS : Aside0 (s.size ≤ 140737488351232) := ⟨by omega⟩
  cases hp : pN 6 (bytesOf s) with
  | none =>
    have HR : Aside0 (prR s = (false, zeroT)) := ⟨by simp only [prR, hp]⟩
    have HP := am_ hp
    clear hp hs
    go_enter Try.func21, Try.ntmps21
    go_wp2_with (first | ((with_reducible refine gate_dst (N := 2) rfl ?_); refine nw_ H 2 zt 29 rfl ?_; clear H; intro g2 w1 H; replace H := H.nn; (try clear F0); (try clear F1); (try clear F2); (try clear F3); have F0 := H.f3 0) | ((with_reducible refine gate_dst (N := 8) rfl ?_); refine nw_ H 8 #[.string s, .int .i64 0, .bool false] 57 rfl ?_; clear H; intro g8 w1 H; replace H := H.nn; (try clear F0); (try clear F1); (try clear F2); (try clear F3); have F0 := H.f3 0; have F1 := H.f3 1) | ((with_reducible refine gate_dst (N := 10) rfl ?_); refine gL_ (some 10) Try.func47 #[.pointer (some ⟨g8, 0, none⟩), .int .i64 1] ?_; refine (HNode.out _ _ g8 0 s false _ (H.box 1 rfl) (Nat.zero_le _) HS.out).mono ?_; rintro e w2 ⟨q, k, b, v, rfl, H2, hq⟩; replace H2 := H2.unbox (Nat.succ_lt_succ (Nat.succ_pos _)); obtain ⟨A, c, rfl, -, -⟩ := H2.tv _ List.getElem?_concat_length; replace hq := rd_top hq; rw [HP.out] at hq; obtain ⟨hk, rfl⟩ := hq; clear H; have H := H2.nn; clear H2; (try clear F0); (try clear F1); (try clear F2); (try clear F3); have F0 := H.f3 0; have F1 := H.f3 1; refine ⟨_, rfl, ?_⟩) | ((with_reducible refine gate_dst (N := 5) rfl ?_); refine nw_ H 5 zt 29 rfl ?_; clear H; intro g5 w1 H; replace H := H.nn; (try clear F0); (try clear F1); (try clear F2); (try clear F3); have F0 := H.f3 0; have F1 := H.f3 1; have F3 := H.f3 3) | ((with_reducible refine gate_store (p := 5) rfl ?_); refine p3_ H 5 3 rfl ?_; clear H; intro w1 H; replace H := H.nn; (try clear F0); (try clear F1); (try clear F2); (try clear F3); have F0 := H.f3 0; have F1 := H.f3 1; have F3 := H.f3 3) | ((with_reducible refine gate_store (p := 2) rfl ?_); refine p3_ H 2 0 rfl ?_; clear H; intro w1 H; replace H := H.nn; (try clear F0); (try clear F1); (try clear F2); (try clear F3); have F0 := H.f3 0; have F3 := H.f3 3))
    refine bodyPost_ret (results_ct rfl _ _ g2 29 _ (0, 0) _ rfl (H.blk 0 rfl) hu rfl (by kernel_rfl)) rfl ?_
    show ∃ v, _ = Ending.returned (.tuple #[.agg #[.int .i64 (prR s).2.f0, .string (prR s).2.f1, v], .bool (prR s).1]) ∧ Sl w _ [tre v (prR s).2.f2]
    rw [HR.out]
    exact ⟨_, rfl, (sub_nil H).one 4⟩
  | some x2 =>
  obtain ⟨x, l⟩ := x2
  have hthin := parsed_thin hp hs
  have htxt := (pN_ok 6 _ _ hp).2.2
  have hlen := pN_len 6 _ _ hp
  cases l with
  | cons c0 l =>
    have HR : Aside0 (prR s = (false, zeroT)) := ⟨by simp only [prR, hp]⟩
    have HP := am_ hp
    clear hp hs hthin htxt hlen
    go_enter Try.func21, Try.ntmps21
    go_wp2_with (first | ((with_reducible refine gate_dst (N := 2) rfl ?_); refine nw_ H 2 zt 29 rfl ?_; clear H; intro g2 w1 H; replace H := H.nn; (try clear F0); (try clear F1); (try clear F2); (try clear F3); have F0 := H.f3 0) | ((with_reducible refine gate_dst (N := 8) rfl ?_); refine nw_ H 8 #[.string s, .int .i64 0, .bool false] 57 rfl ?_; clear H; intro g8 w1 H; replace H := H.nn; (try clear F0); (try clear F1); (try clear F2); (try clear F3); have F0 := H.f3 0; have F1 := H.f3 1) | ((with_reducible refine gate_dst (N := 10) rfl ?_); refine gL_ (some 10) Try.func47 #[.pointer (some ⟨g8, 0, none⟩), .int .i64 1] ?_; refine (HNode.out _ _ g8 0 s false _ (H.box 1 rfl) (Nat.zero_le _) HS.out).mono ?_; rintro e w2 ⟨q, k, b, v, rfl, H2, hq⟩; replace H2 := H2.unbox (Nat.succ_lt_succ (Nat.succ_pos _)); obtain ⟨A, c, rfl, -, -⟩ := H2.tv _ List.getElem?_concat_length; replace hq := rd_top hq; rw [HP.out] at hq; obtain ⟨hk, rfl, rfl, hrest⟩ := hq; obtain ⟨i1, i2⟩ := ne_size hrest; clear hrest; clear H; have H := H2.nn; clear H2; (try clear F0); (try clear F1); (try clear F2); (try clear F3); have F0 := H.f3 0; have F1 := H.f3 1; refine ⟨_, rfl, ?_⟩) | ((with_reducible refine gate_dst (N := 5) rfl ?_); refine nw_ H 5 zt 29 rfl ?_; clear H; intro g5 w1 H; replace H := H.nn; (try clear F0); (try clear F1); (try clear F2); (try clear F3); have F0 := H.f3 0; have F1 := H.f3 1; have F3 := H.f3 3) | ((with_reducible refine gate_store (p := 5) rfl ?_); refine p3_ H 5 3 rfl ?_; clear H; intro w1 H; replace H := H.nn; (try clear F0); (try clear F1); (try clear F2); (try clear F3); have F0 := H.f3 0; have F1 := H.f3 1; have F3 := H.f3 3) | ((with_reducible refine gate_store (p := 2) rfl ?_); refine p3_ H 2 0 rfl ?_; clear H; intro w1 H; replace H := H.nn; (try clear F0); (try clear F1); (try clear F2); (try clear F3); have F0 := H.f3 0; have F3 := H.f3 3))
    refine bodyPost_ret (results_ct rfl _ _ g2 29 _ (0, 0) _ rfl (H.blk 0 rfl) hu rfl (by kernel_rfl)) rfl ?_
    show ∃ v, _ = Ending.returned (.tuple #[.agg #[.int .i64 (prR s).2.f0, .string (prR s).2.f1, v], .bool (prR s).1]) ∧ Sl w _ [tre v (prR s).2.f2]
    rw [HR.out]
    exact ⟨_, rfl, (sub_nil H).one 4⟩
  | nil =>
    have hz : s.size ≠ 0 := fun e => by
      have h0 : (bytesOf s).length = 0 := by rw [len_bytes]; exact e
      rw [h0] at hlen
      exact absurd hlen (by simp)
    have htx : Pl.txt (tr x) = s := bytes_inj (by rw [← htxt, List.append_nil])
    obtain ⟨kv, hv⟩ := (Pl.spec_fmt (tr x) hthin.1 hthin.2.1).rounds
    have n1 := isN hz
    have n2 := eq_false n1
    have n3 : ([] = s.toList) = False := eq_false (fun e => n1 e.symm)
    have n4 : s.toList.isEmpty = false := by cases hh : s.toList with
      | nil => exact absurd hh n1
      | cons _ _ => rfl
    clear n1
    by_cases hval : Pl.validR (tr x) = true
    · have HR : Aside0 (prR s = (true, tr x)) := ⟨by simp only [prR, hp, if_pos hval]⟩
      rw [show Pl.fmtR (tr x) = s by rw [Pl.fmtR, if_pos hval, htx]] at hv
      have HP := am_ hp
      have HV := am_ hv
      clear hp hs hthin htxt hlen hz htx hval hv
      go_enter Try.func21, Try.ntmps21
      go_wp2_with (first | ((with_reducible refine gate_dst (N := 2) rfl ?_); refine nw_ H 2 zt 29 rfl ?_; clear H; intro g2 w1 H; replace H := H.nn; (try clear F0); (try clear F1); (try clear F2); (try clear F3); have F0 := H.f3 0) | ((with_reducible refine gate_dst (N := 8) rfl ?_); refine nw_ H 8 #[.string s, .int .i64 0, .bool false] 57 rfl ?_; clear H; intro g8 w1 H; replace H := H.nn; (try clear F0); (try clear F1); (try clear F2); (try clear F3); have F0 := H.f3 0; have F1 := H.f3 1) | ((with_reducible refine gate_dst (N := 10) rfl ?_); refine gL_ (some 10) Try.func47 #[.pointer (some ⟨g8, 0, none⟩), .int .i64 1] ?_; refine (HNode.out _ _ g8 0 s false _ (H.box 1 rfl) (Nat.zero_le _) HS.out).mono ?_; rintro e w2 ⟨q, k, b, v, rfl, H2, hq⟩; replace H2 := H2.unbox (Nat.succ_lt_succ (Nat.succ_pos _)); obtain ⟨A, c, rfl, -, -⟩ := H2.tv _ List.getElem?_concat_length; replace hq := rd_top hq; rw [HP.out] at hq; obtain ⟨hk, rfl, rfl, hrest⟩ := hq; obtain rfl : k = s.size := (by have := congrArg List.length hrest; rw [List.length_drop, len_bytes] at this; simp only [List.length_nil] at this; omega); clear hrest hk; clear H; have H := H2.nn; clear H2; (try clear F0); (try clear F1); (try clear F2); (try clear F3); have F0 := H.f3 0; have F1 := H.f3 1; refine ⟨_, rfl, ?_⟩) | ((with_reducible refine gate_dst (N := 5) rfl ?_); refine nw_ H 5 zt 29 rfl ?_; clear H; intro g5 w1 H; replace H := H.nn; (try clear F0); (try clear F1); (try clear F2); (try clear F3); have F0 := H.f3 0; have F1 := H.f3 1; have F3 := H.f3 3) | ((with_reducible refine gate_store (p := 5) rfl ?_); refine p3_ H 5 3 rfl ?_; clear H; intro w1 H; replace H := H.nn; (try clear F0); (try clear F1); (try clear F2); (try clear F3); have F0 := H.f3 0; have F1 := H.f3 1; have F3 := H.f3 3) | ((with_reducible refine gate_dst (N := 26) rfl ?_); refine gate_guard (by rfl) ?_; dsimp only; refine gL_ (some 26) Try.func19 #[tv (tr x) A c] ?_; refine (spec_FormatRegex.calls kv _ _ A c _ _ _ (H.rd 2).2 (H.rd 2).1 HV.out).mono ?_; rintro e w2 ⟨rfl, hb⟩; replace H := H.only hb; clear hb; (try clear F0); (try clear F1); (try clear F2); (try clear F3); have F0 := H.f3 0; have F1 := H.f3 1; have F3 := H.f3 3; refine ⟨_, rfl, ?_⟩) | ((with_reducible refine gate_store (p := 2) rfl ?_); refine p3_ H 2 0 rfl ?_; clear H; intro w1 H; replace H := H.nn; (try clear F0); (try clear F1); (try clear F2); (try clear F3); have F0 := H.f3 0; have F3 := H.f3 3))
      refine bodyPost_ret (results_ct rfl _ _ g2 29 _ (0, 0) _ rfl (H.blk 0 rfl) hu rfl (by kernel_rfl)) rfl ?_
      show ∃ v, _ = Ending.returned (.tuple #[.agg #[.int .i64 (prR s).2.f0, .string (prR s).2.f1, v], .bool (prR s).1]) ∧ Sl w _ [tre v (prR s).2.f2]
      rw [HR.out]
      exact ⟨_, rfl, H.one 2⟩
    · have hval2 : Pl.validR (tr x) = false := by simpa using hval
      have HR : Aside0 (prR s = (false, zeroT)) := ⟨by simp only [prR, hp, hval2]; rfl⟩
      rw [show Pl.fmtR (tr x) = ⟨#[]⟩ by rw [Pl.fmtR, if_neg hval]] at hv
      have HP := am_ hp
      have HV := am_ hv
      clear hp hs hthin htxt hlen hz htx hval hval2 hv
      go_enter Try.func21, Try.ntmps21
      go_wp2_with (first | ((with_reducible refine gate_dst (N := 2) rfl ?_); refine nw_ H 2 zt 29 rfl ?_; clear H; intro g2 w1 H; replace H := H.nn; (try clear F0); (try clear F1); (try clear F2); (try clear F3); have F0 := H.f3 0) | ((with_reducible refine gate_dst (N := 8) rfl ?_); refine nw_ H 8 #[.string s, .int .i64 0, .bool false] 57 rfl ?_; clear H; intro g8 w1 H; replace H := H.nn; (try clear F0); (try clear F1); (try clear F2); (try clear F3); have F0 := H.f3 0; have F1 := H.f3 1) | ((with_reducible refine gate_dst (N := 10) rfl ?_); refine gL_ (some 10) Try.func47 #[.pointer (some ⟨g8, 0, none⟩), .int .i64 1] ?_; refine (HNode.out _ _ g8 0 s false _ (H.box 1 rfl) (Nat.zero_le _) HS.out).mono ?_; rintro e w2 ⟨q, k, b, v, rfl, H2, hq⟩; replace H2 := H2.unbox (Nat.succ_lt_succ (Nat.succ_pos _)); obtain ⟨A, c, rfl, -, -⟩ := H2.tv _ List.getElem?_concat_length; replace hq := rd_top hq; rw [HP.out] at hq; obtain ⟨hk, rfl, rfl, hrest⟩ := hq; obtain rfl : k = s.size := (by have := congrArg List.length hrest; rw [List.length_drop, len_bytes] at this; simp only [List.length_nil] at this; omega); clear hrest hk; clear H; have H := H2.nn; clear H2; (try clear F0); (try clear F1); (try clear F2); (try clear F3); have F0 := H.f3 0; have F1 := H.f3 1; refine ⟨_, rfl, ?_⟩) | ((with_reducible refine gate_dst (N := 5) rfl ?_); refine nw_ H 5 zt 29 rfl ?_; clear H; intro g5 w1 H; replace H := H.nn; (try clear F0); (try clear F1); (try clear F2); (try clear F3); have F0 := H.f3 0; have F1 := H.f3 1; have F3 := H.f3 3) | ((with_reducible refine gate_store (p := 5) rfl ?_); refine p3_ H 5 3 rfl ?_; clear H; intro w1 H; replace H := H.nn; (try clear F0); (try clear F1); (try clear F2); (try clear F3); have F0 := H.f3 0; have F1 := H.f3 1; have F3 := H.f3 3) | ((with_reducible refine gate_dst (N := 26) rfl ?_); refine gate_guard (by rfl) ?_; dsimp only; refine gL_ (some 26) Try.func19 #[tv (tr x) A c] ?_; refine (spec_FormatRegex.calls kv _ _ A c _ _ _ (H.rd 2).2 (H.rd 2).1 HV.out).mono ?_; rintro e w2 ⟨rfl, hb⟩; replace H := H.only hb; clear hb; (try clear F0); (try clear F1); (try clear F2); (try clear F3); have F0 := H.f3 0; have F1 := H.f3 1; have F3 := H.f3 3; refine ⟨_, rfl, ?_⟩) | ((with_reducible refine gate_store (p := 2) rfl ?_); refine p3_ H 2 0 rfl ?_; clear H; intro w1 H; replace H := H.nn; (try clear F0); (try clear F1); (try clear F2); (try clear F3); have F0 := H.f3 0; have F3 := H.f3 3))
      refine bodyPost_ret (results_ct rfl _ _ g2 29 _ (0, 0) _ rfl (H.blk 0 rfl) hu rfl (by kernel_rfl)) rfl ?_
      show ∃ v, _ = Ending.returned (.tuple #[.agg #[.int .i64 (prR s).2.f0, .string (prR s).2.f1, v], .bool (prR s).1]) ∧ Sl w _ [tre v (prR s).2.f2]
      rw [HR.out]
      exact ⟨_, rfl, (sub_nil H).one 4⟩
end Go.Proofs.Ytldgkgdgcfllmaa
end
section
namespace Go.Proofs.Ytldgkgdgcfllmaa
open Go.RowKit Go.Shelf Go.Proofs.Ytldgkgdgcfllmaa.P Go.Proofs.Ytldgkgdgcfllmaa.Rg Go.Proofs.YtldgkgdgcfllmaaW.PrintWords Go.Proofs.YtldgkgdgcfllmaaW.PrintLast Go.Proofs.YtldgkgdgcfllmaaW.PrintMore
set_option linter.unusedVariables false
theorem own_raise {w : World} {base : Nat} {e : TypeId} {size n : Nat} {v : Value} {xs : List Value} (h : w.ownsRow 0 e size v n xs) (hb : ∀ k, v.ownBlock = some k → base ≤ k) : w.ownsRow base e size v n xs := by
  obtain ⟨h1, h2⟩ := h
  refine ⟨h1, ?_⟩
  rcases h2 with h2 | ⟨g, cap, cur, rfl, hg, r⟩
  · exact .inl h2
  · exact .inr ⟨g, cap, cur, rfl, hb g rfl, r⟩
section
variable {w : World} {base : Nat}
mutual
theorem Own.kd : ∀ {v : Value} {ts : List Tr} {fp : List Nat} (_ : Own w v ts fp) (ok : Nat → Prop), fp.Nodup → (∀ k ∈ fp, base ≤ k ∧ ok k) → Kd.R k29 29 w base ok v ts
  | _, _, _, .mk (v := v) (fs := fs) (cs := cs) h ho, ok, hn, hk => by
    obtain ⟨n1, n2, n3⟩ := List.nodup_append.1 hn
    refine ⟨fun k hb => (hk k (List.mem_append_left _ (by rw [hb]; exact List.mem_singleton.2 rfl))).2, cs, own_raise ho (fun k hb => (hk k (List.mem_append_left _ (by rw [hb]; exact List.mem_singleton.2 rfl))).1), ?_⟩
    exact OwnL.kd h _ n2 (fun k hk' => ⟨(hk k (List.mem_append_right _ hk')).1, (hk k (List.mem_append_right _ hk')).2, fun e => n3 k (by rw [← e]; exact List.mem_singleton.2 rfl) k hk' rfl⟩)
theorem OwnL.kd : ∀ {cs : List Value} {ts : List Tr} {fp : List Nat} (_ : OwnL w cs ts fp) (ok : Nat → Prop), fp.Nodup → (∀ k ∈ fp, base ≤ k ∧ ok k) → Reps (k29.M w base ok) 3 ts cs
  | _, _, _, .nil, _, _, _ => Reps.none _ _
  | _, _, _, .cons (t := t) h1 h2, ok, hn, hk => by
    obtain ⟨n1, n2, n3⟩ := List.nodup_append.1 hn
    have hk1 := k29_mkM w base ok t (Own.kd h1 ok n1 (fun k hk' => hk k (List.mem_append_left _ hk')))
    have h3 := OwnL.kd h2 ok n2 (fun k hk' => hk k (List.mem_append_right _ hk'))
    refine ⟨by have := h3.1; simp only [List.length_cons]; omega, fun j p hp => ?_⟩
    cases j with
    | zero =>
      obtain rfl := Option.some.inj hp
      exact hk1
    | succ j =>
      have := h3.2 j p (by simpa using hp)
      rw [show (j + 1) * 3 = j * 3 + 1 + 1 + 1 by omega]
      exact this
end
theorem tre_R {w' : World} {v : Value} {ts : List Tr} (H : Sl w w' [tre v ts]) : Kd.R k29 29 w' w.heap.size (fun _ => True) v ts := by
  obtain ⟨f, hf, hn, hg⟩ := H.get 0 rfl
  exact Own.kd hf _ hn (fun k hk => ⟨hg k hk, trivial⟩)
end
end Go.Proofs.Ytldgkgdgcfllmaa
end
section
namespace Go.Proofs.Ytldgkgdgcfllmaa.P
open Go.RowKit Go.Proofs.YtldgkgdgcfllmaaW.PrintWords Go.Proofs.YtldgkgdgcfllmaaW.PrintLast Go.Proofs.YtldgkgdgcfllmaaW.PrintMore
attribute [local go_sem] max2_int min2_int max_two min_two max_three min_three max_four min_four
set_option linter.unusedVariables false
set_option linter.unusedSimpArgs false
def spec_ParseRegex.f (a0 : ByteArray) : Option (Int × ByteArray × List S29 × Bool) := if a0.size ≤ 1048576 then some ((Rg.prR a0).2.f0, (Rg.prR a0).2.f1, (Rg.prR a0).2.f2, (Rg.prR a0).1) else none
theorem spec_ParseRegex.calls (a0 : ByteArray) (r1 : Int) (r2 : ByteArray) (r3 : List S29) (r4 : Bool) (w : World) (h : spec_ParseRegex.f a0 = some (r1, r2, r3, r4)) :
    Calls Try.prog 21 #[.string a0] w fun e w' => ∃ v2_ : Value, e = .returned (.tuple #[.agg #[.int .i64 r1, .string r2, v2_], .bool r4]) ∧ Kd.R k29 29 w' w.heap.size (fun _ => True) v2_ r3 ∧ Below w.heap.size w w' := by
  unfold spec_ParseRegex.f at h
  split at h
  · rename_i hp
    have h := Option.some.inj h
    have e1 := congrArg Prod.fst h
    have e2 := congrArg (fun x => x.2.1) h
    have e3 := congrArg (fun x => x.2.2.1) h
    have e4 := congrArg (fun x => x.2.2.2) h
    simp only at e1 e2 e3 e4
    rw [← e1, ← e2, ← e3, ← e4]
    refine (prSpec a0 hp w).mono ?_
    rintro e w' ⟨v, rfl, H⟩
    exact ⟨v, rfl, tre_R H, H.bel⟩
  · cases h
end Go.Proofs.Ytldgkgdgcfllmaa.P
end
section
namespace Go.Proofs.Ytldgkgdgcfllmaa.P
open Go.RowKit Go.Proofs.YtldgkgdgcfllmaaW.PrintWords Go.Proofs.YtldgkgdgcfllmaaW.PrintLast Go.Proofs.YtldgkgdgcfllmaaW.PrintMore
attribute [local go_sem] max2_int min2_int max_two min_two max_three min_three max_four min_four
set_option linter.unusedVariables false
set_option linter.unusedSimpArgs false
def impl_ParseRegex.f (a0 : ByteArray) : Option (Int × ByteArray × List S29 × Bool) := if a0.size ≤ 1048576 then some ((Rg.prR a0).2.f0, (Rg.prR a0).2.f1, (Rg.prR a0).2.f2, (Rg.prR a0).1) else none
theorem impl_ParseRegex.calls (a0 : ByteArray) (r1 : Int) (r2 : ByteArray) (r3 : List S29) (r4 : Bool) (w : World) (h : impl_ParseRegex.f a0 = some (r1, r2, r3, r4)) :
    Calls Try.prog 22 #[.string a0] w fun e w' => ∃ v2_ : Value, e = .returned (.tuple #[.agg #[.int .i64 r1, .string r2, v2_], .bool r4]) ∧ Kd.R k29 29 w' w.heap.size (fun _ => True) v2_ r3 ∧ Below w.heap.size w w' := by
  unfold impl_ParseRegex.f at h
  split at h
  · rename_i hp
    have h := Option.some.inj h
    have e1 := congrArg Prod.fst h
    have e2 := congrArg (fun x => x.2.1) h
    have e3 := congrArg (fun x => x.2.2.1) h
    have e4 := congrArg (fun x => x.2.2.2) h
    simp only at e1 e2 e3 e4
    rw [← e1, ← e2, ← e3, ← e4]
    refine (prImpl a0 hp w).mono ?_
    rintro e w' ⟨v, rfl, H⟩
    exact ⟨v, rfl, tre_R H, H.bel⟩
  · cases h
end Go.Proofs.Ytldgkgdgcfllmaa.P
end
section
namespace Go.Proofs.Ytldgkgdgcfllmaa.P
open Go.RowKit Go.Proofs.YtldgkgdgcfllmaaW.PrintWords Go.Proofs.YtldgkgdgcfllmaaW.PrintLast Go.Proofs.YtldgkgdgcfllmaaW.PrintMore
attribute [local go_sem] max2_int min2_int max_two min_two max_three min_three max_four min_four
set_option linter.unusedVariables false
set_option linter.unusedSimpArgs false
def laws_big.f (l0 : List Int) : Option (Bool) := some (decide ((l0.length : Int) > 1048576))
set_option maxHeartbeats 8000000 in
set_option maxRecDepth 100000 in
theorem laws_big.calls (A0 : Option Addr) (c0 : Nat) (l0 : List Int) (r : Bool) (w : World) (hr0 : Kd.C (Kd.int .u8) w A0 l0.length l0) (hc0 : l0.length ≤ c0) (h : laws_big.f l0 = some r) :
    Calls Try.prog 31 #[.slice A0 l0.length c0] w fun e w' => e = .returned (.bool r) ∧ Drawn0 w w' := by
  have HR0 := am_ hr0
  have HC0 := am_ hc0
  clear hr0 hc0
  have H : (some (decide ((l0.length : Int) > 1048576))) = some r := h
  clear h
  obtain rfl := Option.some.inj H
  simp only [Option.some.injEq, Prod.mk.injEq] at H
  obtain ⟨rfl⟩ := H
  go_enter Try.func31, Try.ntmps31
  go_wp2
  go_ret
  exact ⟨by first | rfl | (simp; done) | (simp [*]; done), by repeat (first | exact Drawn0.refl _ | apply Drawn0.step)⟩
def IsS93 (w0 W : World) (g : Nat) (f0 : List Int) (f1 : Int) (f2 : Int) : Prop := ∃ A0 c0, W.heap[g]? = some (.cells #[.slice A0 f0.length c0, .int .i64 f1, .int .i64 f2] 93 (0, 0)) ∧ w0.heap.size ≤ g ∧ Kd.C (Kd.int .u8) w0 A0 f0.length f0
theorem IsS93.grown {w0 W : World} {g : Nat} {f0 : List Int} {f1 : Int} {f2 : Int} {W1 : World} {row : Option Nat} (h : IsS93 w0 W g f0 f1 f2) (hw : W.grownBy W1 row) (hne : some g ≠ row) : IsS93 w0 W1 g f0 f1 f2 := by
  obtain ⟨A0, c0, hb, hg, hr0⟩ := h
  exact ⟨A0, c0, blk_grown hb hw hne, hg, hr0⟩
theorem IsS93.own_neN {w0 W : World} {g : Nat} {f0 : List Int} {f1 : Int} {f2 : Int} {α : Type} {d : Kd α} {e : Nat} {base : Nat} {ok : Nat → Prop} {v : Value} {xs : List α} (h : IsS93 w0 W g f0 f1 f2) (ho : Kd.N d e W base ok v xs) (ht : e ≠ 93) : some g ≠ v.ownBlock := by
  obtain ⟨A0, c0, hb, hg, hr0⟩ := h
  exact Kd.N_ne ho hb ht
theorem IsS93.fresh {w0 W : World} {g : Nat} {f0 : List Int} {f1 : Int} {f2 : Int} (h : IsS93 w0 W g f0 f1 f2) : ∀ k, W.heap.size ≤ k → k ≠ g := by
  obtain ⟨A0, c0, hb, hg, hr0⟩ := h
  exact Kd.freshB hb
theorem IsS93.kept {w0 W : World} {g : Nat} {f0 : List Int} {f1 : Int} {f2 : Int} {W1 : World} {S : Nat → Prop} (h : IsS93 w0 W g f0 f1 f2) (hk : Kept W W1 S) (hne : ¬ S g) : IsS93 w0 W1 g f0 f1 f2 := by
  obtain ⟨A0, c0, hb, hg, hr0⟩ := h
  exact ⟨A0, c0, blk_kept hb hk hne, hg, hr0⟩
theorem IsS93.below {w0 W : World} {g : Nat} {f0 : List Int} {f1 : Int} {f2 : Int} {W1 : World} (h : IsS93 w0 W g f0 f1 f2) (hw : Below W.heap.size W W1) : IsS93 w0 W1 g f0 f1 f2 := h.grown (grown_of_below hw none) (by simp)
theorem IsS93.alloc {w0 W : World} {g : Nat} {f0 : List Int} {f1 : Int} {f2 : Int} (h : IsS93 w0 W g f0 f1 f2) (o : Obj) : IsS93 w0 (W.alloc o) g f0 f1 f2 := h.below (below_alloc (Below.refl _ _) o)
theorem IsS93.drewN {w0 W : World} {g : Nat} {f0 : List Int} {f1 : Int} {f2 : Int} (h : IsS93 w0 W g f0 f1 f2) (m : Nat) : IsS93 w0 (W.drewN m) g f0 f1 f2 := h
theorem IsS93.drew {w0 W : World} {g : Nat} {f0 : List Int} {f1 : Int} {f2 : Int} (h : IsS93 w0 W g f0 f1 f2) : IsS93 w0 W.drew g f0 f1 f2 := h
theorem IsS93.at_ {w0 W : World} {g : Nat} {f0 : List Int} {f1 : Int} {f2 : Int} {w' : World} {m : Nat} (hq : W.drewN m = w') (h : IsS93 w0 W g f0 f1 f2) : IsS93 w0 w' g f0 f1 f2 := by subst hq; exact IsS93.drewN h m
theorem IsS93.apart {w0 W : World} {g : Nat} {f0 : List Int} {f1 : Int} {f2 : Int} {α : Type} {d : Kd α} {e : Nat} {base : Nat} {ok : Nat → Prop} {v : Value} {xs : List α} (h : IsS93 w0 W g f0 f1 f2) (ho : d.R e W base ok v xs) (ht : ∀ q, q ∈ e :: d.E → q ≠ 93) : d.R e W base (fun k => ok k ∧ k ≠ g) v xs := by
  obtain ⟨A0, c0, hb, hg, hr0⟩ := h
  exact Kd.R_types ho hb ht
theorem IsS93.own_ne {w0 W : World} {g : Nat} {f0 : List Int} {f1 : Int} {f2 : Int} {α : Type} {d : Kd α} {e : Nat} {base : Nat} {ok : Nat → Prop} {v : Value} {xs : List α} (h : IsS93 w0 W g f0 f1 f2) (ho : d.R e W base ok v xs) (ht : e ≠ 93) : some g ≠ v.ownBlock := by
  obtain ⟨A0, c0, hb, hg, hr0⟩ := h
  exact Kd.R_ne ho hb ht
theorem IsS93.lt {w0 W : World} {g : Nat} {f0 : List Int} {f1 : Int} {f2 : Int} (h : IsS93 w0 W g f0 f1 f2) : g < W.heap.size := by
  obtain ⟨A0, c0, hb, hg, hr0⟩ := h
  exact blk_lt hb
theorem IsS93.ge {w0 W : World} {g : Nat} {f0 : List Int} {f1 : Int} {f2 : Int} (h : IsS93 w0 W g f0 f1 f2) : w0.heap.size ≤ g := by
  obtain ⟨A0, c0, hb, hg, hr0⟩ := h
  exact hg
theorem IsS93.ne_blk {w0 W : World} {g : Nat} {f0 : List Int} {f1 : Int} {f2 : Int} {a : Nat} {cs : Array Value} {t : TypeId} {fr : Nat × Nat} (h : IsS93 w0 W g f0 f1 f2) (hb2 : W.heap[a]? = some (.cells cs t fr)) (ht : t ≠ 93) : g ≠ a := by
  obtain ⟨A0, c0, hb, hg, hr0⟩ := h
  rintro rfl
  rw [hb] at hb2
  injection hb2 with hb2
  injection hb2 with _ ht2
  exact ht ht2.symm
theorem IsS93.far {w0 W : World} {g : Nat} {f0 : List Int} {f1 : Int} {f2 : Int} {p : Addr} (h : IsS93 w0 W g f0 f1 f2) (hne : g ≠ p.block) (u : Value) : IsS93 w0 (W.setCell p u) g f0 f1 f2 := by
  obtain ⟨A0, c0, hb, hg, hr0⟩ := h
  exact ⟨A0, c0, blk_far hb hne u, hg, hr0⟩
theorem cellS93_0 {W : World} {g : Nat} {A0 : Option Addr} {c0 : Nat} {f0 : List Int} {f1 : Int} {f2 : Int} (h : W.heap[g]? = some (.cells #[.slice A0 f0.length c0, .int .i64 f1, .int .i64 f2] 93 (0, 0))) : W.cell? ⟨g, 0, none⟩ = some (.slice A0 f0.length c0) := (blk_cell h 0).trans rfl
theorem cellS93_1 {W : World} {g : Nat} {A0 : Option Addr} {c0 : Nat} {f0 : List Int} {f1 : Int} {f2 : Int} (h : W.heap[g]? = some (.cells #[.slice A0 f0.length c0, .int .i64 f1, .int .i64 f2] 93 (0, 0))) : W.cell? ⟨g, 1, none⟩ = some (.int .i64 f1) := (blk_cell h 1).trans rfl
theorem IsS93.set_1 {w0 W : World} {g : Nat} {f0 : List Int} {f1 : Int} {f2 : Int} (h : IsS93 w0 W g f0 f1 f2) (x : Int) : IsS93 w0 (W.setCell ⟨g, 1, none⟩ (.int .i64 x)) g f0 x f2 := by
  obtain ⟨A0, c0, hb, hg, hr0⟩ := h
  exact ⟨A0, c0, by simpa using blk_set hb 1 (.int .i64 x), hg, hr0⟩
theorem cellS93_2 {W : World} {g : Nat} {A0 : Option Addr} {c0 : Nat} {f0 : List Int} {f1 : Int} {f2 : Int} (h : W.heap[g]? = some (.cells #[.slice A0 f0.length c0, .int .i64 f1, .int .i64 f2] 93 (0, 0))) : W.cell? ⟨g, 2, none⟩ = some (.int .i64 f2) := (blk_cell h 2).trans rfl
theorem IsS93.set_2 {w0 W : World} {g : Nat} {f0 : List Int} {f1 : Int} {f2 : Int} (h : IsS93 w0 W g f0 f1 f2) (x : Int) : IsS93 w0 (W.setCell ⟨g, 2, none⟩ (.int .i64 x)) g f0 f1 x := by
  obtain ⟨A0, c0, hb, hg, hr0⟩ := h
  exact ⟨A0, c0, by simpa using blk_set hb 2 (.int .i64 x), hg, hr0⟩
theorem IsS93.new (w0 W : World) (A0 : Option Addr) (c0 : Nat) (f0 : List Int) (f1 : Int) (f2 : Int) (hB : Below w0.heap.size w0 W) (hr0 : Kd.C (Kd.int .u8) w0 A0 f0.length f0) : IsS93 w0 (W.alloc (.cells #[.slice A0 f0.length c0, .int .i64 f1, .int .i64 f2] 93)) W.heap.size f0 f1 f2 := ⟨A0, c0, by simpa using heap_alloc_new W _, hB.size, hr0⟩
def spec_l1Byte.f (s0_0 : List Int) (s0_1 : Int) (s0_2 : Int) : Option (Int × Int × Int) := if s0_1 < (s0_0.length : Int) then (if 0 ≤ s0_1 then (some (Go.bits .and .i64 (wrap64 ((Go.bits .and .i64 (Go.bits .xor .i64 ((wrap64 ((wrap64 (s0_2 * 6364136223846793005)) + 1442695040888963407)) / 8589934592) ((wrap64 ((wrap64 (s0_2 * 6364136223846793005)) + 1442695040888963407)) / 35184372088832)) 255) + (wrap64 (rd s0_0 s0_1)))) 255, wrap64 (s0_1 + 1), wrap64 ((wrap64 (s0_2 * 6364136223846793005)) + 1442695040888963407))) else (none)) else (some (Go.bits .and .i64 (Go.bits .xor .i64 ((wrap64 ((wrap64 (s0_2 * 6364136223846793005)) + 1442695040888963407)) / 8589934592) ((wrap64 ((wrap64 (s0_2 * 6364136223846793005)) + 1442695040888963407)) / 35184372088832)) 255, s0_1, wrap64 ((wrap64 (s0_2 * 6364136223846793005)) + 1442695040888963407)))
theorem zp44_0_ {p q : Prop} (h : p) (c : p → q := by intro h_; repeat (first | (with_reducible first | exact h_ | apply IsS93.alloc | apply IsS93.drewN | apply IsS93.drew | apply IsS93.set_1 | apply IsS93.set_2) | exact h_)) : q := c h
theorem zp44_1_ {p q g1 : Prop} (h : p) (h1 : g1) (c : p → g1 → q := by intro h_ h1_; repeat (first | (with_reducible first | exact h_ | apply below_alloc | apply pw_below_drewN | apply below_drew1 | refine below_set ?_ h1_) | exact h_)) : q := c h h1
theorem zp44_2_ {p q : Prop} (h : p) (c : p → q := by intro h_; repeat (first | (with_reducible first | exact h_ | apply KeepBut.set_ | apply keep_drewN | apply keep_drew | apply keep_alloc) | exact h_)) : q := c h
set_option maxHeartbeats 8000000 in
set_option maxRecDepth 100000 in
theorem spec_l1Byte.calls (g : Nat) (s0_0 : List Int) (s0_1 : Int) (s0_2 : Int) (r1 : Int) (r2 : Int) (r3 : Int) (w0 w : World) (hI : IsS93 w0 w g s0_0 s0_1 s0_2) (hB : Below w0.heap.size w0 w) (h : spec_l1Byte.f s0_0 s0_1 s0_2 = some (r1, r2, r3)) :
    Calls Try.prog 83 #[.pointer (some ⟨g, 0, none⟩)] w fun e w' => e = .returned (.int .i64 r1) ∧ IsS93 w0 w' g s0_0 r2 r3 ∧ Below w0.heap.size w0 w' ∧ KeepBut w w' g none := by
  have HI0 := am_ hI
  have HK := am_ (KeepBut.refl w g none)
  have HL := am_ hB.size
  clear hI
  have HW0 := am_ hB.size
  have HB := am_ hB
  clear hB
  have H : (if s0_1 < (s0_0.length : Int) then (if 0 ≤ s0_1 then (some (Go.bits .and .i64 (wrap64 ((Go.bits .and .i64 (Go.bits .xor .i64 ((wrap64 ((wrap64 (s0_2 * 6364136223846793005)) + 1442695040888963407)) / 8589934592) ((wrap64 ((wrap64 (s0_2 * 6364136223846793005)) + 1442695040888963407)) / 35184372088832)) 255) + (wrap64 (rd s0_0 s0_1)))) 255, wrap64 (s0_1 + 1), wrap64 ((wrap64 (s0_2 * 6364136223846793005)) + 1442695040888963407))) else (none)) else (some (Go.bits .and .i64 (Go.bits .xor .i64 ((wrap64 ((wrap64 (s0_2 * 6364136223846793005)) + 1442695040888963407)) / 8589934592) ((wrap64 ((wrap64 (s0_2 * 6364136223846793005)) + 1442695040888963407)) / 35184372088832)) 255, s0_1, wrap64 ((wrap64 (s0_2 * 6364136223846793005)) + 1442695040888963407)))) = some (r1, r2, r3) := h
  clear h
  by_cases c2 : s0_1 < (s0_0.length : Int)
  · rw [if_pos c2] at H
    have c2b0 : decide (s0_1 < (s0_0.length : Int)) = true := decide_eq_true c2
    clear c2
    by_cases c3 : 0 ≤ s0_1
    · rw [if_pos c3] at H
      have c3b0 : decide (0 ≤ s0_1) = true := decide_eq_true c3
      clear c3
      simp only [Option.some.injEq, Prod.mk.injEq] at H
      obtain ⟨rfl, rfl, rfl⟩ := H
      obtain ⟨ASz4_0, cSz4_0, HGz4, hgz4, HSz4_0⟩ := HI0.out
      have aF := cellS93_0 HGz4
      have aG := cellS93_1 HGz4
      have aH := cellS93_2 HGz4
      have aI := blk_frozen HGz4 1
      have aJ := blk_frozen HGz4 2
      clear HGz4 hgz4
      have p725 : 0 ≤ (s0_1 : Int) := of_decide_eq_true ah_
      have q725 : s0_1 < (s0_0.length : Int) := of_decide_eq_true ah_
      obtain ⟨aq, e725, aa⟩ := Kd.at_int HSz4_0 s0_1 p725 q725
      cases e725
      have hn725_0 : aq.block ≠ g := Nat.ne_of_lt (Nat.lt_of_lt_of_le (by have := World.block_lt_of_cell? _ _ aa; first | rwa [add_block] at this | exact this) (IsS93.ge HI0.out))
      replace aa := pw_cell_below HB.out aa
      replace aa := (cell_far (p := ⟨g, 2, none⟩) (by first | (rw [add_block]; exact hn725_0) | (show (Addr.add _ _).block ≠ _; rw [add_block]; exact hn725_0) | exact hn725_0) (.int .i64 (wrap64 ((wrap64 (s0_2 * 6364136223846793005)) + 1442695040888963407)))).trans aa
      (try have hy725_0 := fun (n_ : Nat) => (show (((w.drewN n_).setCell ⟨g, 2, none⟩ (.int .i64 (wrap64 ((wrap64 (s0_2 * 6364136223846793005)) + 1442695040888963407))))).cell? _ = some _ from aa))
      clear hn725_0
      replace p725 := eq_true p725
      replace q725 := eq_true q725
      go_enter Try.func83, Try.ntmps83
      go_wp2
      repeat (go_quiet (fail); try go_wp2)
      go_ret
      exact ⟨by first | rfl | (simp [errW_none, errW_some] <;> rfl) | (simp [*, errW_none, errW_some] <;> rfl), by exact zp44_0_ HI0.out, by exact zp44_1_ HB.out (IsS93.ge HI0.out), by exact zp44_2_ HK.out⟩
    · rw [if_neg c3] at H
      exact absurd H (by simp)
  · rw [if_neg c2] at H
    have c2b0 : decide (s0_1 < (s0_0.length : Int)) = false := decide_eq_false c2
    clear c2
    simp only [Option.some.injEq, Prod.mk.injEq] at H
    obtain ⟨rfl, rfl, rfl⟩ := H
    obtain ⟨ASz5_0, cSz5_0, HGz5, hgz5, HSz5_0⟩ := HI0.out
    have aK := cellS93_0 HGz5
    have aL := cellS93_1 HGz5
    have aM := cellS93_2 HGz5
    have aN := blk_frozen HGz5 1
    have aO := blk_frozen HGz5 2
    clear HGz5 hgz5
    go_enter Try.func83, Try.ntmps83
    go_wp2
    repeat (go_quiet (fail); try go_wp2)
    go_ret
    exact ⟨by first | rfl | (simp [errW_none, errW_some] <;> rfl) | (simp [*, errW_none, errW_some] <;> rfl), by exact zp44_0_ HI0.out, by exact zp44_1_ HB.out (IsS93.ge HI0.out), by exact zp44_2_ HK.out⟩
def spec_l1Below.f (s0_0 : List Int) (s0_1 : Int) (s0_2 : Int) (a1 : Int) : Option (Int × Int × Int) := if a1 ≤ 0 then (some (0, s0_1, s0_2)) else (if a1 ≤ 256 then ((spec_l1Byte.f s0_0 s0_1 s0_2).bind fun bt726 => (if a1 = 0 then (none) else (some (Int.tmod bt726.1 a1, bt726.2.1, bt726.2.2)))) else ((spec_l1Byte.f s0_0 s0_1 s0_2).bind fun bt729 => ((spec_l1Byte.f s0_0 bt729.2.1 bt729.2.2).bind fun bt732 => ((spec_l1Byte.f s0_0 bt732.2.1 bt732.2.2).bind fun bt735 => ((spec_l1Byte.f s0_0 bt735.2.1 bt735.2.2).bind fun bt738 => (if a1 = 0 then (none) else (some (Int.tmod (wrap64 ((wrap64 ((wrap64 ((wrap64 (bt729.1 * 16777216)) + (wrap64 (bt732.1 * 65536)))) + (wrap64 (bt735.1 * 256)))) + bt738.1)) a1, bt738.2.1, bt738.2.2))))))))
set_option maxHeartbeats 8000000 in
set_option maxRecDepth 100000 in
theorem spec_l1Below.calls (g : Nat) (s0_0 : List Int) (s0_1 : Int) (s0_2 : Int) (a1 : Int) (r1 : Int) (r2 : Int) (r3 : Int) (w0 w : World) (hI : IsS93 w0 w g s0_0 s0_1 s0_2) (hB : Below w0.heap.size w0 w) (h : spec_l1Below.f s0_0 s0_1 s0_2 a1 = some (r1, r2, r3)) :
    Calls Try.prog 62 #[.pointer (some ⟨g, 0, none⟩), .int .i64 a1] w fun e w' => e = .returned (.int .i64 r1) ∧ IsS93 w0 w' g s0_0 r2 r3 ∧ Below w0.heap.size w0 w' ∧ KeepBut w w' g none := by
  have HI0 := am_ hI
  have HK := am_ (KeepBut.refl w g none)
  have HL := am_ hB.size
  clear hI
  have HW0 := am_ hB.size
  have HB := am_ hB
  clear hB
  have H : (if a1 ≤ 0 then (some (0, s0_1, s0_2)) else (if a1 ≤ 256 then ((spec_l1Byte.f s0_0 s0_1 s0_2).bind fun bt726 => (if a1 = 0 then (none) else (some (Int.tmod bt726.1 a1, bt726.2.1, bt726.2.2)))) else ((spec_l1Byte.f s0_0 s0_1 s0_2).bind fun bt729 => ((spec_l1Byte.f s0_0 bt729.2.1 bt729.2.2).bind fun bt732 => ((spec_l1Byte.f s0_0 bt732.2.1 bt732.2.2).bind fun bt735 => ((spec_l1Byte.f s0_0 bt735.2.1 bt735.2.2).bind fun bt738 => (if a1 = 0 then (none) else (some (Int.tmod (wrap64 ((wrap64 ((wrap64 ((wrap64 (bt729.1 * 16777216)) + (wrap64 (bt732.1 * 65536)))) + (wrap64 (bt735.1 * 256)))) + bt738.1)) a1, bt738.2.1, bt738.2.2))))))))) = some (r1, r2, r3) := h
  clear h
  by_cases c3 : a1 ≤ 0
  · rw [if_pos c3] at H
    have c3b0 : decide (a1 ≤ 0) = true := decide_eq_true c3
    clear c3
    simp only [Option.some.injEq, Prod.mk.injEq] at H
    obtain ⟨rfl, rfl, rfl⟩ := H
    go_enter Try.func62, Try.ntmps62
    go_wp2
    go_ret
    exact ⟨by first | rfl | (simp [errW_none, errW_some] <;> rfl) | (simp [*, errW_none, errW_some] <;> rfl), by exact zp44_0_ HI0.out, by exact zp44_1_ HB.out (IsS93.ge HI0.out), by exact zp44_2_ HK.out⟩
  · rw [if_neg c3] at H
    have c3b0 : decide (a1 ≤ 0) = false := decide_eq_false c3
    clear c3
    by_cases c4 : a1 ≤ 256
    · rw [if_pos c4] at H
      have c4b0 : decide (a1 ≤ 256) = true := decide_eq_true c4
      clear c4
      replace H := Option.bind_eq_some_iff.mp H
      obtain ⟨⟨au, av, aw⟩, A50, H⟩ := H
      have A5 := am_ A50
      clear A50
      by_cases c6 : a1 = 0
      · rw [if_pos c6] at H
        exact absurd H (by simp)
      · rw [if_neg c6] at H
        have c6b0 : (a1 == 0) = false := beq_eq_false_iff_ne.mpr c6
        have c6b1 : (a1 != 0) = true := bne_iff_ne.mpr c6
        simp only [Option.some.injEq, Prod.mk.injEq] at H
        obtain ⟨rfl, rfl, rfl⟩ := H
        go_enter Try.func62, Try.ntmps62
        go_wp2_with (first | ((with_reducible refine gate_callee (f := 83) rfl ?_); refine gL_ (some 14) Try.func83 #[.pointer (some ⟨g, 0, none⟩)] ?_; (with_reducible refine (spec_l1Byte.calls g s0_0 s0_1 s0_2 au av aw w0 _ ?side1 ?side2 A5.out).mono ?_); (case side1 => exact zp44_0_ HI0.out); (case side2 => exact zp44_1_ HB.out (IsS93.ge HI0.out)); rintro e w7 ⟨rfl, hi, hb, hk⟩; refine ⟨_, rfl, ?_⟩; have n0_ := am_ (KeepBut.trans (k0_ HK.out) hk (.inl rfl)); have n1_ := am_ (hb); have n2_ := am_ (hi); clear HK; clear HB; clear HI0; have HK := n0_; have HB := n1_; have HI0 := n2_; clear n0_ n1_ n2_; (try clear hb); (try clear hb2); (try clear hk); (try clear hi)))
        go_ret
        exact ⟨by first | rfl | (simp [errW_none, errW_some] <;> rfl) | (simp [*, errW_none, errW_some] <;> rfl), by exact zp44_0_ HI0.out, by exact zp44_1_ HB.out (IsS93.ge HI0.out), by exact zp44_2_ HK.out⟩
    · rw [if_neg c4] at H
      have c4b0 : decide (a1 ≤ 256) = false := decide_eq_false c4
      clear c4
      replace H := Option.bind_eq_some_iff.mp H
      obtain ⟨⟨ax, af, ag⟩, A80, H⟩ := H
      have A8 := am_ A80
      clear A80
      replace H := Option.bind_eq_some_iff.mp H
      obtain ⟨⟨ay, ah, ai⟩, A90, H⟩ := H
      have A9 := am_ A90
      clear A90
      replace H := Option.bind_eq_some_iff.mp H
      obtain ⟨⟨az, aj, ak⟩, al, H⟩ := H
      have A10 := am_ al
      clear al
      replace H := Option.bind_eq_some_iff.mp H
      obtain ⟨⟨aA, aB, aC⟩, am, H⟩ := H
      have A11 := am_ am
      clear am
      by_cases c12 : a1 = 0
      · rw [if_pos c12] at H
        exact absurd H (by simp)
      · rw [if_neg c12] at H
        have c12b0 : (a1 == 0) = false := beq_eq_false_iff_ne.mpr c12
        have c12b1 : (a1 != 0) = true := bne_iff_ne.mpr c12
        simp only [Option.some.injEq, Prod.mk.injEq] at H
        obtain ⟨rfl, rfl, rfl⟩ := H
        go_enter Try.func62, Try.ntmps62
        go_wp2_with (first | ((with_reducible refine gate_callee (f := 83) rfl ?_); refine gL_ (some 18) Try.func83 #[.pointer (some ⟨g, 0, none⟩)] ?_; (with_reducible refine (spec_l1Byte.calls g s0_0 s0_1 s0_2 ax af ag w0 _ ?side1 ?side2 A8.out).mono ?_); (case side1 => exact zp44_0_ HI0.out); (case side2 => exact zp44_1_ HB.out (IsS93.ge HI0.out)); rintro e w13 ⟨rfl, hi, hb, hk⟩; refine ⟨_, rfl, ?_⟩; have n0_ := am_ (KeepBut.trans (k0_ HK.out) hk (.inl rfl)); have n1_ := am_ (hb); have n2_ := am_ (hi); clear HK; clear HB; clear HI0; have HK := n0_; have HB := n1_; have HI0 := n2_; clear n0_ n1_ n2_; (try clear hb); (try clear hb2); (try clear hk); (try clear hi)) | ((with_reducible refine gate_callee (f := 83) rfl ?_); refine gL_ (some 20) Try.func83 #[.pointer (some ⟨g, 0, none⟩)] ?_; (with_reducible refine (spec_l1Byte.calls g s0_0 af ag ay ah ai w0 _ ?side1 ?side2 A9.out).mono ?_); (case side1 => exact zp44_0_ HI0.out); (case side2 => exact zp44_1_ HB.out (IsS93.ge HI0.out)); rintro e w14 ⟨rfl, hi, hb, hk⟩; refine ⟨_, rfl, ?_⟩; have n0_ := am_ (KeepBut.trans (k0_ HK.out) hk (.inl rfl)); have n1_ := am_ (hb); have n2_ := am_ (hi); clear HK; clear HB; clear HI0; have HK := n0_; have HB := n1_; have HI0 := n2_; clear n0_ n1_ n2_; (try clear hb); (try clear hb2); (try clear hk); (try clear hi)) | ((with_reducible refine gate_callee (f := 83) rfl ?_); refine gL_ (some 22) Try.func83 #[.pointer (some ⟨g, 0, none⟩)] ?_; (with_reducible refine (spec_l1Byte.calls g s0_0 ah ai az aj ak w0 _ ?side1 ?side2 A10.out).mono ?_); (case side1 => exact zp44_0_ HI0.out); (case side2 => exact zp44_1_ HB.out (IsS93.ge HI0.out)); rintro e w15 ⟨rfl, hi, hb, hk⟩; refine ⟨_, rfl, ?_⟩; have n0_ := am_ (KeepBut.trans (k0_ HK.out) hk (.inl rfl)); have n1_ := am_ (hb); have n2_ := am_ (hi); clear HK; clear HB; clear HI0; have HK := n0_; have HB := n1_; have HI0 := n2_; clear n0_ n1_ n2_; (try clear hb); (try clear hb2); (try clear hk); (try clear hi)) | ((with_reducible refine gate_callee (f := 83) rfl ?_); refine gL_ (some 24) Try.func83 #[.pointer (some ⟨g, 0, none⟩)] ?_; (with_reducible refine (spec_l1Byte.calls g s0_0 aj ak aA aB aC w0 _ ?side1 ?side2 A11.out).mono ?_); (case side1 => exact zp44_0_ HI0.out); (case side2 => exact zp44_1_ HB.out (IsS93.ge HI0.out)); rintro e w16 ⟨rfl, hi, hb, hk⟩; refine ⟨_, rfl, ?_⟩; have n0_ := am_ (KeepBut.trans (k0_ HK.out) hk (.inl rfl)); have n1_ := am_ (hb); have n2_ := am_ (hi); clear HK; clear HB; clear HI0; have HK := n0_; have HB := n1_; have HI0 := n2_; clear n0_ n1_ n2_; (try clear hb); (try clear hb2); (try clear hk); (try clear hi)))
        go_ret
        exact ⟨by first | rfl | (simp [errW_none, errW_some] <;> rfl) | (simp [*, errW_none, errW_some] <;> rfl), by exact zp44_0_ HI0.out, by exact zp44_1_ HB.out (IsS93.ge HI0.out), by exact zp44_2_ HK.out⟩
def spec_l1Pick.f (s0_0 : List Int) (s0_1 : Int) (s0_2 : Int) (l1 : List ByteArray) : Option (ByteArray × Int × Int) := (spec_l1Below.f s0_0 s0_1 s0_2 (l1.length : Int)).bind fun bt741 => (if 0 ≤ bt741.1 then (if bt741.1 < (l1.length : Int) then (some (rdOf ByteArray.empty l1 bt741.1, bt741.2.1, bt741.2.2)) else (none)) else (none))
set_option maxHeartbeats 8000000 in
set_option maxRecDepth 100000 in
theorem spec_l1Pick.calls (g : Nat) (s0_0 : List Int) (s0_1 : Int) (s0_2 : Int) (A1 : Option Addr) (c1 : Nat) (l1 : List ByteArray) (r1 : ByteArray) (r2 : Int) (r3 : Int) (w0 w : World) (hI : IsS93 w0 w g s0_0 s0_1 s0_2) (hB : Below w0.heap.size w0 w) (hr1 : Kd.C Kd.string w A1 l1.length l1) (hc1 : l1.length ≤ c1) (hf1 : ∀ ad, A1 = some ad → 0 < l1.length → ad.block ≠ g) (h : spec_l1Pick.f s0_0 s0_1 s0_2 l1 = some (r1, r2, r3)) :
    Calls Try.prog 60 #[.pointer (some ⟨g, 0, none⟩), .slice A1 l1.length c1] w fun e w' => e = .returned (.string r1) ∧ IsS93 w0 w' g s0_0 r2 r3 ∧ Below w0.heap.size w0 w' ∧ KeepBut w w' g none := by
  have HR1 := am_ hr1
  have HC1 := am_ hc1
  clear hr1 hc1
  have HI0 := am_ hI
  have HK := am_ (KeepBut.refl w g none)
  have HL := am_ hB.size
  clear hI
  have HW0 := am_ hB.size
  have HB := am_ hB
  clear hB
  have H : ((spec_l1Below.f s0_0 s0_1 s0_2 (l1.length : Int)).bind fun bt741 => (if 0 ≤ bt741.1 then (if bt741.1 < (l1.length : Int) then (some (rdOf ByteArray.empty l1 bt741.1, bt741.2.1, bt741.2.2)) else (none)) else (none))) = some (r1, r2, r3) := h
  clear h
  replace H := Option.bind_eq_some_iff.mp H
  obtain ⟨⟨ab, aD, aE⟩, A30, H⟩ := H
  have A3 := am_ A30
  clear A30
  by_cases c4 : 0 ≤ ab
  · rw [if_pos c4] at H
    have c4b0 : decide (0 ≤ ab) = true := decide_eq_true c4
    clear c4
    by_cases c5 : ab < (l1.length : Int)
    · rw [if_pos c5] at H
      have c5b0 : decide (ab < (l1.length : Int)) = true := decide_eq_true c5
      clear c5
      simp only [Option.some.injEq, Prod.mk.injEq] at H
      obtain ⟨rfl, rfl, rfl⟩ := H
      go_enter Try.func60, Try.ntmps60
      go_wp2_with (first | ((with_reducible refine gate_callee (f := 62) rfl ?_); refine gL_ (some 9) Try.func62 #[.pointer (some ⟨g, 0, none⟩), .int .i64 (l1.length : Int)] ?_; (with_reducible refine (spec_l1Below.calls g s0_0 s0_1 s0_2 (l1.length : Int) ab aD aE w0 _ ?side1 ?side2 A3.out).mono ?_); (case side1 => exact zp44_0_ HI0.out); (case side2 => exact zp44_1_ HB.out (IsS93.ge HI0.out)); rintro e w6 ⟨rfl, hi, hb, hk⟩; refine ⟨_, rfl, ?_⟩; have n0_ := am_ (KeepBut.trans (k0_ HK.out) hk (.inl rfl)); have n1_ := am_ (hb); have n2_ := am_ (hi); clear HK; clear HB; clear HI0; have HK := n0_; have HB := n1_; have HI0 := n2_; clear n0_ n1_ n2_; (try clear hb); (try clear hb2); (try clear hk); (try clear hi); have p744 : 0 ≤ (ab : Int) := of_decide_eq_true ah_; have q744 : ab < (l1.length : Int) := of_decide_eq_true ah_; obtain ⟨ar, e744, ae⟩ := Kd.at_string HR1.out ab p744 q744; cases e744; replace ae := keep_cell HK.out ae (by first | (rw [add_block]; exact hf1 _ rfl (by omega)) | exact hf1 _ rfl (by omega) | exact hf1 ar rfl (by omega)); replace p744 := eq_true p744; replace q744 := eq_true q744))
      go_ret
      exact ⟨by first | rfl | (simp [errW_none, errW_some] <;> rfl) | (simp [*, errW_none, errW_some] <;> rfl), by exact zp44_0_ HI0.out, by exact zp44_1_ HB.out (IsS93.ge HI0.out), by exact zp44_2_ HK.out⟩
    · rw [if_neg c5] at H
      exact absurd H (by simp)
  · rw [if_neg c4] at H
    exact absurd H (by simp)
def spec_l1Once.f (s0_0 : List Int) (s0_1 : Int) (s0_2 : Int) (a1 : Int) : Option (Bool × Int × Int) := (spec_l1Below.f s0_0 s0_1 s0_2 a1).bind fun bt745 => (some ((bt745.1 == 0), bt745.2.1, bt745.2.2))
set_option maxHeartbeats 8000000 in
set_option maxRecDepth 100000 in
theorem spec_l1Once.calls (g : Nat) (s0_0 : List Int) (s0_1 : Int) (s0_2 : Int) (a1 : Int) (r1 : Bool) (r2 : Int) (r3 : Int) (w0 w : World) (hI : IsS93 w0 w g s0_0 s0_1 s0_2) (hB : Below w0.heap.size w0 w) (h : spec_l1Once.f s0_0 s0_1 s0_2 a1 = some (r1, r2, r3)) :
    Calls Try.prog 63 #[.pointer (some ⟨g, 0, none⟩), .int .i64 a1] w fun e w' => e = .returned (.bool r1) ∧ IsS93 w0 w' g s0_0 r2 r3 ∧ Below w0.heap.size w0 w' ∧ KeepBut w w' g none := by
  have HI0 := am_ hI
  have HK := am_ (KeepBut.refl w g none)
  have HL := am_ hB.size
  clear hI
  have HW0 := am_ hB.size
  have HB := am_ hB
  clear hB
  have H : ((spec_l1Below.f s0_0 s0_1 s0_2 a1).bind fun bt745 => (some ((bt745.1 == 0), bt745.2.1, bt745.2.2))) = some (r1, r2, r3) := h
  clear h
  replace H := Option.bind_eq_some_iff.mp H
  obtain ⟨⟨an, ao, ap⟩, A30, H⟩ := H
  replace H : (some ((an == 0), ao, ap)) = some (r1, r2, r3) := H
  have A3 := am_ A30
  clear A30
  simp only [Option.some.injEq, Prod.mk.injEq] at H
  obtain ⟨rfl, rfl, rfl⟩ := H
  go_enter Try.func63, Try.ntmps63
  go_wp2_with (first | ((with_reducible refine gate_callee (f := 62) rfl ?_); refine gL_ (some 7) Try.func62 #[.pointer (some ⟨g, 0, none⟩), .int .i64 a1] ?_; (with_reducible refine (spec_l1Below.calls g s0_0 s0_1 s0_2 a1 an ao ap w0 _ ?side1 ?side2 A3.out).mono ?_); (case side1 => exact zp44_0_ HI0.out); (case side2 => exact zp44_1_ HB.out (IsS93.ge HI0.out)); rintro e w4 ⟨rfl, hi, hb, hk⟩; refine ⟨_, rfl, ?_⟩; have n0_ := am_ (KeepBut.trans (k0_ HK.out) hk (.inl rfl)); have n1_ := am_ (hb); have n2_ := am_ (hi); clear HK; clear HB; clear HI0; have HK := n0_; have HB := n1_; have HI0 := n2_; clear n0_ n1_ n2_; (try clear hb); (try clear hb2); (try clear hk); (try clear hi)))
  go_ret
  exact ⟨by first | rfl | (simp [errW_none, errW_some] <;> rfl) | (simp [*, errW_none, errW_some] <;> rfl), by exact zp44_0_ HI0.out, by exact zp44_1_ HB.out (IsS93.ge HI0.out), by exact zp44_2_ HK.out⟩
end Go.Proofs.Ytldgkgdgcfllmaa.P
end
