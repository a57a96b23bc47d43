/- Texts of the proof of FnRegexText, put together. No condition. -/
import Derived.Test.YtldgkgdgcfllmaaQFnRegexText3
import Derived.Test.YtldgkgdgcfllmaaQFnRegexText8
import Derived.Test.YtldgkgdgcfllmaaQFnRegexText9
import Derived.Test.YtldgkgdgcfllmaaQFnRegexText5
section
namespace Go.Proofs.Ytldgkgdgcfllmaa
open Go.RowKit Go.Shelf Go.Proofs.Ytldgkgdgcfllmaa.P Go.Proofs.Ytldgkgdgcfllmaa.Pl Go.Proofs.Ytldgkgdgcfllmaa.Rg Go.Proofs.YtldgkgdgcfllmaaW.PrintWords Go.Proofs.YtldgkgdgcfllmaaW.PrintLast Go.Proofs.YtldgkgdgcfllmaaW.PrintMore
set_option linter.unusedVariables false
set_option linter.unusedSimpArgs false
def PRes (w : World) (s : ByteArray) (res : Option (Rx × List Int)) (e : Ending) (w' : World) : Prop := ∃ v q rest ok, e = .returned (.tuple #[.agg #[.int .i64 q.f0, .string q.f1, v], .string rest, .bool ok]) ∧ Sl w w' [tre v q.f2] ∧ rest.size ≤ s.size ∧ match res with
  | some x => ok = true ∧ q = tr x.1 ∧ bytesOf rest = x.2
  | none => ok = false
abbrev RdAt (d : Nat) : Prop := ∀ (s : ByteArray) (w : World), s.size ≤ 140737488351232 → Calls Try.prog 48 #[.string s, .int .i64 d] w (PRes w s (pN d (bytesOf s)))
theorem emp_list : ByteArray.toList ⟨#[]⟩ = [] := by rw [ByteArray.toList_eq]
theorem isE {s : ByteArray} (h : s.size = 0) : s.toList = [] := by
  have := len_bytes s
  rw [h] at this
  have e : s = ⟨#[]⟩ := bytes_inj (by rw [List.eq_nil_of_length_eq_zero this]; rfl)
  rw [e, emp_list]
theorem isN {s : ByteArray} (h : s.size ≠ 0) : s.toList ≠ [] := fun e => h (by
  have : s = ⟨#[]⟩ := toList_iff.mp (e.trans emp_list.symm)
  rw [this]; rfl)
set_option maxHeartbeats 40000000 in
set_option maxRecDepth 100000 in
theorem rdFail (d : Nat) (s : ByteArray) (w : World) (h : s.size = 0 ∨ d = 0) : Calls Try.prog 48 #[.string s, .int .i64 d] w (PRes w s none) := by
  have H := Sl.start w
  have hu := Try.underlying29
  by_cases hz : s.size = 0
  · have e1 := isE hz
    clear h hz
    go_enter Try.func48, Try.ntmps48
    go_wp2_with (first | ((with_reducible refine gate_dst (N := 4) rfl ?_); refine nw_ H 4 zt 29 rfl ?_; clear H; intro g4 w1 H; replace H := H.nn; have F0 := H.f3 0) | ((with_reducible refine gate_store (p := 4) rfl ?_); refine p3_ H 4 0 rfl ?_; clear H F0; intro w1 H; replace H := H.nn))
    refine bodyPost_ret (results_ctt rfl _ _ g4 29 _ (0, 0) _ rfl (H.blk 0 rfl) hu rfl (by kernel_rfl)) rfl ?_
    exact ⟨_, ⟨0, ⟨#[]⟩, []⟩, _, _, rfl, (sub_nil H).one 1, Nat.zero_le _, rfl⟩
  · have e1 : (s.toList = []) = False := eq_false (isN hz)
    have e1b : s.toList.isEmpty = false := by cases hh : s.toList with
      | nil => exact absurd hh (isN hz)
      | cons _ _ => rfl
    have hd : d = 0 := h.resolve_left hz
    subst hd
    clear h hz
    go_enter Try.func48, Try.ntmps48
    go_wp2_with (first | ((with_reducible refine gate_dst (N := 4) rfl ?_); refine nw_ H 4 zt 29 rfl ?_; clear H; intro g4 w1 H; replace H := H.nn; have F0 := H.f3 0) | ((with_reducible refine gate_store (p := 4) rfl ?_); refine p3_ H 4 0 rfl ?_; clear H F0; intro w1 H; replace H := H.nn))
    refine bodyPost_ret (results_ctt rfl _ _ g4 29 _ (0, 0) _ rfl (H.blk 0 rfl) hu rfl (by kernel_rfl)) rfl ?_
    exact ⟨_, ⟨0, ⟨#[]⟩, []⟩, _, _, rfl, (sub_nil H).one 1, Nat.zero_le _, rfl⟩
def T3 : Bool × List (List Nat × List Nat) := (true, [([], []), ([0], [0]), ([], []), ([2], [2]), ([1, 0, 1], [1]), ([3, 4, 0, 1, 2, 3, 4], [3])])
def B3 : List Nat := [0, 1, 0, 4, 3, 31]
theorem tab3 : rtab .any (opsOf Try.f48 3) = T3 := by kernel_rfl
theorem bits3 : waitsOk T3.2 B3 = true := by kernel_rfl
theorem bytes_cons {s : ByteArray} (h : 0 < s.size) : bytesOf s = (((s[0]'h).toNat : Nat) : Int) :: bytesOf (s.extract 1 s.size) := by
  have := drop_cons s 0 h
  rw [List.drop_zero] at this
  rw [this, bytes_extract]
  congr 1
  · simp [bt, h]
  · rw [show s.size = (bytesOf s).length from (len_bytes s).symm, List.take_length]
theorem one1_bytes {b : Int} (h0 : 0 ≤ b) (h1 : b ≤ 255) : bytesOf (one1 b) = [b] := by
  simp only [one1, bytesOf, List.map_cons, List.map_nil]
  congr 1
  rw [UInt8.toNat_ofNat']
  omega
def T26 : Bool × List (List Nat × List Nat) := (true, [([], []), ([0], [0]), ([], []), ([1, 2, 0, 1, 2], [0, 1])])
def B26 : List Nat := [0, 1, 0, 7]
theorem bits26 : waitsOk T26.2 B26 = true := by kernel_rfl
theorem tab26 : rtab .any (opsOf Try.f48 26) = T26 := by kernel_rfl
theorem tab28 : rtab .any (opsOf Try.f48 28) = T26 := by kernel_rfl
def T32 : Bool × List (List Nat × List Nat) := (true, [([], []), ([], []), ([], []), ([1, 2], [1, 2]), ([0, 3], [0, 3]), ([], []), ([5], [5]), ([4, 0, 1, 2, 3, 4], [4]), ([6, 7, 0, 1, 2, 3, 4, 5, 6, 7], [6]), ([8, 0, 1, 2, 3, 4, 5, 6, 7, 8], [])])
def B32 : List Nat := [0, 0, 0, 6, 15, 0, 32, 31, 255, 511]
theorem bits32 : waitsOk T32.2 B32 = true := by kernel_rfl
theorem tab32 : rtab .any (opsOf Try.f48 32) = T32 := by kernel_rfl
set_option maxHeartbeats 40000000 in
set_option maxRecDepth 100000 in
theorem rdStep (d : Nat) (s : ByteArray) (w : World) (hs : s.size ≤ 140737488351232) (hd2 : d + 1 ≤ 1000) (hz : s.size ≠ 0) (ih : RdAt d) : Calls Try.prog 48 #[.string s, .int .i64 ((d + 1 : Nat) : Int)] w (PRes w s (pN (d + 1) (bytesOf s))) := by
  have H := Sl.start w
  have hu := Try.underlying29
  have e1 : (s.toList = []) = False := eq_false (isN hz)
  have e1b : s.toList.isEmpty = false := by cases hh : s.toList with
    | nil => exact absurd hh (isN hz)
    | cons _ _ => rfl
  have e2 : (((d + 1 : Nat) : Int) == 0) = false := by simp; omega
  have e3 : (0 < s.size) = True := eq_true (by omega)
  have e4 : (1 ≤ s.size) = True := eq_true (by omega)
  have e5 : ((0 : Int) < (s.size : Int)) = True := eq_true (by omega)
  have e6 : ((1 : Int) ≤ (s.size : Int)) = True := eq_true (by omega)
  have hb := bytes_cons (s := s) (of_eq_true e3)
  have hrs : (s.extract 1 s.size).size = s.size - 1 := by rw [ByteArray.size_extract]; omega
  have hx1 : bytesOf (s.extract 0 1) = (bytesOf s).take 1 := by rw [bytes_extract, List.drop_zero]
  have hdd : wrap64 (((d + 1 : Nat) : Int) - 1) = (d : Int) := by rw [w64 (by omega) (by omega)]; omega
  have HS := am_ (And.intro hs (And.intro hz hrs))
  have HB := am_ (And.intro hb hx1)
  have HIH := am_ ih
  obtain ⟨n1, hn1⟩ : ∃ n : Int, n = ((d + 1 : Nat) : Int) := ⟨_, rfl⟩
  rw [← hn1] at e2 hdd ⊢
  obtain ⟨res, hres⟩ : ∃ r, r = pN (d + 1) (bytesOf s) := ⟨_, rfl⟩
  rw [← hres]
  have HR := am_ hres
  clear hs hz hb hrs hx1 ih hn1 hd2 hres
  go_enter Try.func48, Try.ntmps48
  go_wp2_with ((with_reducible refine gate_dst (N := 4) rfl ?_); refine nw_ H 4 zt 29 rfl ?_; clear H; intro g4 w1 H; replace H := H.nn)
  refine start_ (n := 6) (S := (fun w' => True)) (ds := []) #[false, false, false, false, false, false] (by kernel_rfl) rfl rfl (trivial) (fun hHeld => ?_); refine with_tabW tab3 bits3 (fun HT_ HW_ => ?_)
  replace H := H.drew
  refine ph_ 0 25 #[true, false, false, false, false, false] HT_ ?_
  refine ph_ 1 26 #[true, true, false, false, false, false] HT_ ?_
  refine ph_ 2 27 #[true, true, true, false, false, false] HT_ ?_
  refine ph_ 3 28 #[true, true, true, true, false, false] HT_ ?_
  refine ph_ 4 7 #[true, true, true, true, true, false] HT_ ?_
  refine ph_ 5 8 #[true, true, true, true, true, true] HT_ ?_
  refine done_ (done_of HT_.out (by kernel_rfl)) ?_
  clear HT_ HW_ hHeld
  generalize World.drew _ = w2 at H ⊢
  have F0 := H.f3 0
  have hbb := (s[0]'(of_eq_true e3)).toNat_lt
  generalize hbv : ((s[0]'(of_eq_true e3)).toNat : Int) = b at *
  have hb0 : 0 ≤ b ∧ b ≤ 255 := by omega
  generalize hrv : s.extract 1 s.size = rs at *
  by_cases h48 : b = 48
  · subst h48
    have HP : Aside0 (res = some (.none, bytesOf rs)) := ⟨by rw [HR.out, HB.out.1]; simp [pN]⟩
    go_wp2_with ((with_reducible refine gate_store (p := 4) rfl ?_); refine p3_ H 4 0 rfl ?_; clear H F0; intro w1 H; replace H := H.nn)
    refine bodyPost_ret (results_ctt rfl _ _ g4 29 _ (0, 0) _ rfl (H.blk 0 rfl) hu rfl (by kernel_rfl)) rfl ?_
    exact ⟨_, tr .none, _, _, rfl, (sub_nil H).one 1, by have := HS.out; omega, by rw [HP.out]; exact ⟨rfl, rfl, rfl⟩⟩
  by_cases h49 : b = 49
  · subst h49
    have HP : Aside0 (res = some (.empty, bytesOf rs)) := ⟨by rw [HR.out, HB.out.1]; simp [pN]⟩
    go_wp2_with ((with_reducible refine gate_store (p := 4) rfl ?_); refine p3_ H 4 0 rfl ?_; clear H F0; intro w1 H; replace H := H.nn)
    refine bodyPost_ret (results_ctt rfl _ _ g4 29 _ (0, 0) _ rfl (H.blk 0 rfl) hu rfl (by kernel_rfl)) rfl ?_
    exact ⟨_, tr .empty, _, _, rfl, (sub_nil H).one 1, by have := HS.out; omega, by rw [HP.out]; exact ⟨rfl, rfl, rfl⟩⟩
  by_cases h46 : b = 46
  · subst h46
    have HP : Aside0 (res = some (.any, bytesOf rs)) := ⟨by rw [HR.out, HB.out.1]; simp [pN]⟩
    go_wp2_with ((with_reducible refine gate_store (p := 4) rfl ?_); refine p3_ H 4 0 rfl ?_; clear H F0; intro w1 H; replace H := H.nn)
    refine bodyPost_ret (results_ctt rfl _ _ g4 29 _ (0, 0) _ rfl (H.blk 0 rfl) hu rfl (by kernel_rfl)) rfl ?_
    exact ⟨_, tr .any, _, _, rfl, (sub_nil H).one 1, by have := HS.out; omega, by rw [HP.out]; exact ⟨rfl, rfl, rfl⟩⟩
  have HL : Aside0 (impl_LetterIndex.f b = some (letIdx b)) := ⟨impl_letter hb0.1 hb0.2⟩
  by_cases hc : b = 97 ∨ b = 98 ∨ b = 99
  · have HP : Aside0 (res = some (.letter (one1 b), bytesOf rs)) := ⟨by rw [HR.out, HB.out.1]; rcases hc with rfl | rfl | rfl <;> simp [pN]⟩
    have hl : s.extract 0 1 = one1 b := bytes_inj (by rw [HB.out.2, HB.out.1, one1_bytes hb0.1 hb0.2]; rfl)
    have HLL := am_ hl
    clear hl
    rcases hc with rfl | rfl | rfl
    all_goals
      go_wp2_with (first | (go_at_call 73; (with_reducible refine (impl_LetterIndex.calls _ _ _ HL.out).mono ?_); rintro e w2 ⟨rfl, hbl⟩; replace H := H.only hbl.below; clear hbl F0; have F0 := H.f3 0) | ((with_reducible refine gate_store (p := 4) rfl ?_); refine p3_ H 4 0 rfl ?_; clear H F0; intro w1 H; replace H := H.nn))
      refine bodyPost_ret (results_ctt rfl _ _ g4 29 _ (0, 0) _ rfl (H.blk 0 rfl) hu rfl (by kernel_rfl)) rfl ?_
      exact ⟨_, tr (.letter (s.extract 0 1)), _, _, rfl, (sub_nil H).one 1, by have := HS.out; omega, by rw [HP.out]; exact ⟨rfl, by rw [HLL.out], rfl⟩⟩
  have HL2 : Aside0 (impl_LetterIndex.f b = some (-1)) := ⟨by rw [HL.out]; unfold letIdx; rw [if_neg (fun e => hc (.inl e)), if_neg (fun e => hc (.inr (.inl e))), if_neg (fun e => hc (.inr (.inr e)))]⟩
  have HNC := am_ hc
  clear HL hc
  by_cases h42 : b = 42
  · subst h42
    have HP : Aside0 (res = (pN d (bytesOf rs)).map fun x => (.star x.1, x.2)) := ⟨by rw [HR.out, HB.out.1]; simp [pN]⟩
    go_wp2_with (first | (go_at_call 73; (with_reducible refine (impl_LetterIndex.calls _ _ _ HL2.out).mono ?_); rintro e w3 ⟨rfl, hbl⟩; replace H := H.only hbl.below; clear hbl F0; have F0 := H.f3 0) | (((with_reducible refine gate_dst (N := 63) rfl ?_); (first | (refine gL_ (some 63) Try.func48 #[.string rs, .int .i64 (wrap64 (n1 - 1))] ?_; rw [hdd]) | refine gL_ (some 63) Try.func48 #[.string rs, .int .i64 d] ?_); refine (HIH.out rs _ (by have := HS.out; omega)).mono ?_; rintro e w4 ⟨v, q1, r1, ok, rfl, H2, hr, hm⟩; obtain ⟨A1, c1, rfl, -, -⟩ := H2.tv 0; replace H := (H.call H2).nn; have HM1 := am_ (And.intro hr hm); clear H2 hr hm); clear F0; refine ⟨_, rfl, ?_⟩) | ((with_reducible refine gate_dst (N := 9) rfl ?_); refine nw_ H 9 zt 29 rfl ?_; clear H; intro g9 w5 H; replace H := H.nn; have F2 := H.f3 2) | ((with_reducible refine gate_store (p := 9) rfl ?_); refine p3_ H 9 2 rfl ?_; clear H F2; intro w5 H; replace H := H.nn; have F2 := H.f3 2) | ((with_reducible refine gate_dst (N := 71) rfl ?_); refine wl1_ (t := q1) H 71 1 rfl ?_; clear H F2; intro g7 w5 H; replace H := H.nn; have F0 := H.f3 0) | ((with_reducible refine gate_store (p := 4) rfl ?_); refine p3_ H 4 0 rfl ?_; clear H F0; intro w5 H; replace H := H.nn))
    refine bodyPost_ret (results_ctt rfl _ _ g4 29 _ (0, 0) _ rfl (H.blk 0 rfl) hu rfl (by kernel_rfl)) rfl ?_
    refine ⟨_, ⟨8, ⟨#[]⟩, [q1]⟩, _, _, rfl, H.one 1, by have := HS.out; have := HM1.out.1; omega, ?_⟩
    rw [HP.out]
    have hm := HM1.out.2
    cases hp : pN d (bytesOf rs) with
    | none => rw [hp] at hm; exact hm
    | some x => rw [hp] at hm; obtain ⟨h1, h2, h3⟩ := hm; exact ⟨h1, by rw [h2]; rfl, h3⟩
  by_cases h33 : b = 33
  · subst h33
    have HP : Aside0 (res = (pN d (bytesOf rs)).map fun x => (.not x.1, x.2)) := ⟨by rw [HR.out, HB.out.1]; simp [pN]⟩
    go_wp2_with (first | (go_at_call 73; (with_reducible refine (impl_LetterIndex.calls _ _ _ HL2.out).mono ?_); rintro e w3 ⟨rfl, hbl⟩; replace H := H.only hbl.below; clear hbl F0; have F0 := H.f3 0) | (((with_reducible refine gate_dst (N := 63) rfl ?_); (first | (refine gL_ (some 63) Try.func48 #[.string rs, .int .i64 (wrap64 (n1 - 1))] ?_; rw [hdd]) | refine gL_ (some 63) Try.func48 #[.string rs, .int .i64 d] ?_); refine (HIH.out rs _ (by have := HS.out; omega)).mono ?_; rintro e w4 ⟨v, q1, r1, ok, rfl, H2, hr, hm⟩; obtain ⟨A1, c1, rfl, -, -⟩ := H2.tv 0; replace H := (H.call H2).nn; have HM1 := am_ (And.intro hr hm); clear H2 hr hm); clear F0; refine ⟨_, rfl, ?_⟩) | ((with_reducible refine gate_dst (N := 9) rfl ?_); refine nw_ H 9 zt 29 rfl ?_; clear H; intro g9 w5 H; replace H := H.nn; have F2 := H.f3 2) | ((with_reducible refine gate_store (p := 9) rfl ?_); refine p3_ H 9 2 rfl ?_; clear H F2; intro w5 H; replace H := H.nn; have F2 := H.f3 2) | ((with_reducible refine gate_dst (N := 71) rfl ?_); refine wl1_ (t := q1) H 71 1 rfl ?_; clear H F2; intro g7 w5 H; replace H := H.nn; have F0 := H.f3 0) | ((with_reducible refine gate_store (p := 4) rfl ?_); refine p3_ H 4 0 rfl ?_; clear H F0; intro w5 H; replace H := H.nn))
    refine bodyPost_ret (results_ctt rfl _ _ g4 29 _ (0, 0) _ rfl (H.blk 0 rfl) hu rfl (by kernel_rfl)) rfl ?_
    refine ⟨_, ⟨9, ⟨#[]⟩, [q1]⟩, _, _, rfl, H.one 1, by have := HS.out; have := HM1.out.1; omega, ?_⟩
    rw [HP.out]
    have hm := HM1.out.2
    cases hp : pN d (bytesOf rs) with
    | none => rw [hp] at hm; exact hm
    | some x => rw [hp] at hm; obtain ⟨h1, h2, h3⟩ := hm; exact ⟨h1, by rw [h2]; rfl, h3⟩
  by_cases hc40 : b = 40
  rotate_left
  · have HP : Aside0 (res = none) := ⟨by rw [HR.out, HB.out.1]; simp only [pN]; rw [if_neg h48, if_neg h49, if_neg h46, if_neg HNC.out, if_neg h42, if_neg h33, if_neg hc40]⟩
    have f1 : ((b : Int) == 48) = false := by simpa using h48
    have f2 : ((b : Int) == 49) = false := by simpa using h49
    have f3 : ((b : Int) == 46) = false := by simpa using h46
    have f4 : ((b : Int) == 42) = false := by simpa using h42
    have f5 : ((b : Int) == 33) = false := by simpa using h33
    have f6 : ((b : Int) == 40) = false := by simpa using hc40
    have f7 : ((b : Int) != 40) = true := by simpa using hc40
    have f8 := eq_false h48
    have f9 := eq_false h49
    have f10 := eq_false h46
    have f11 := eq_false h42
    have f12 := eq_false h33
    have f13 := eq_false hc40
    go_wp2_with (first | (go_at_call 73; (with_reducible refine (impl_LetterIndex.calls _ _ _ HL2.out).mono ?_); rintro e w3 ⟨rfl, hbl⟩; replace H := H.only hbl.below; clear hbl F0; have F0 := H.f3 0) | ((with_reducible refine gate_store (p := 4) rfl ?_); refine p3_ H 4 0 rfl ?_; clear H F0; intro w5 H; replace H := H.nn))
    refine bodyPost_ret (results_ctt rfl _ _ g4 29 _ (0, 0) _ rfl (H.blk 0 rfl) hu rfl (by kernel_rfl)) rfl ?_
    exact ⟨_, ⟨0, ⟨#[]⟩, []⟩, _, _, rfl, (sub_nil H).one 1, Nat.zero_le _, by rw [HP.out]⟩
  subst hc40
  have HP0 : Aside0 (res = (pN d (bytesOf rs)).bind fun x => (pN d (sgn x.2).2).bind fun y => match y.2 with
      | c :: r => if c = 41 then some (op2 (sgn x.2).1 x.1 y.1, r) else none
      | [] => none) := ⟨by rw [HR.out, HB.out.1]; first | (simp [pN]; done) | (simp [pN]; rfl)⟩
  go_wp2_with (first | (go_at_call 73; (with_reducible refine (impl_LetterIndex.calls _ _ _ HL2.out).mono ?_); rintro e w3 ⟨rfl, hbl⟩; replace H := H.only hbl.below; clear hbl F0; have F0 := H.f3 0) | (((with_reducible refine gate_dst (N := 83) rfl ?_); (first | (refine gL_ (some 83) Try.func48 #[.string rs, .int .i64 (wrap64 (n1 - 1))] ?_; rw [hdd]) | refine gL_ (some 83) Try.func48 #[.string rs, .int .i64 d] ?_); refine (HIH.out rs _ (by have := HS.out; omega)).mono ?_; rintro e w4 ⟨v, q1, r1, ok1, rfl, H2, hr, hm⟩; obtain ⟨A1, c1, rfl, -, -⟩ := H2.tv 0; replace H := (H.call H2).nn; have HM1 := am_ (And.intro hr hm); clear H2 hr hm); clear F0; have F0 := H.f3 0))
  cases ok1
  · have HP : Aside0 (res = none) := ⟨by
      rw [HP0.out]
      have hm := HM1.out.2
      cases hp : pN d (bytesOf rs) with
      | none => rfl
      | some x => rw [hp] at hm; exact absurd hm.1 (by decide)⟩
    refine ⟨_, rfl, ?_⟩
    go_wp2_with (first | ((with_reducible refine gate_dst (N := 13) rfl ?_); refine nw_ H 13 zt 29 rfl ?_; clear H; intro g13 w5 H; replace H := H.nn; have F2 := H.f3 2) | ((with_reducible refine gate_store (p := 13) rfl ?_); refine p3_ H 13 2 rfl ?_; clear H F2; intro w5 H; replace H := H.nn; have F2 := H.f3 2; have F0 := H.f3 0) | ((with_reducible refine gate_store (p := 4) rfl ?_); refine p3_ H 4 0 rfl ?_; clear H F0; intro w5 H; replace H := H.nn))
    refine bodyPost_ret (results_ctt rfl _ _ g4 29 _ (0, 0) _ rfl (H.blk 0 rfl) hu rfl (by kernel_rfl)) rfl ?_
    exact ⟨_, ⟨0, ⟨#[]⟩, []⟩, _, _, rfl, (sub_nil H).one 3, Nat.zero_le _, by rw [HP.out]⟩
  obtain ⟨x1, l1, hp1, rfl, hl1⟩ : ∃ x1 l1, pN d (bytesOf rs) = some (x1, l1) ∧ q1 = tr x1 ∧ bytesOf r1 = l1 := by
    have hm := HM1.out.2
    cases hp : pN d (bytesOf rs) with
    | none => rw [hp] at hm; cases hm
    | some x => rw [hp] at hm; exact ⟨x.1, x.2, rfl, hm.2⟩
  have HP1 := am_ (And.intro hp1 hl1)
  have HR1 := am_ (Nat.le_trans HM1.out.1 (by have := HS.out; omega : rs.size ≤ 140737488351232))
  clear hp1 hl1
  by_cases hz1 : r1.size = 0
  · have i1 := isE hz1
    have HP : Aside0 (res = none) := ⟨by
      rw [HP0.out, HP1.out.1, ← HP1.out.2, show bytesOf r1 = [] from List.eq_nil_of_length_eq_zero (by rw [len_bytes]; exact hz1)]
      cases d with | zero => rfl | succ d => rfl⟩
    clear hz1
    refine ⟨_, rfl, ?_⟩
    go_wp2_with (first | ((with_reducible refine gate_dst (N := 13) rfl ?_); refine nw_ H 13 zt 29 rfl ?_; clear H; intro g13 w5 H; replace H := H.nn; have F2 := H.f3 2) | ((with_reducible refine gate_store (p := 13) rfl ?_); refine p3_ H 13 2 rfl ?_; clear H F2; intro w5 H; replace H := H.nn; have F2 := H.f3 2; have F0 := H.f3 0) | ((with_reducible refine gate_store (p := 4) rfl ?_); refine p3_ H 4 0 rfl ?_; clear H F0; intro w5 H; replace H := H.nn))
    refine bodyPost_ret (results_ctt rfl _ _ g4 29 _ (0, 0) _ rfl (H.blk 0 rfl) hu rfl (by kernel_rfl)) rfl ?_
    exact ⟨_, ⟨0, ⟨#[]⟩, []⟩, _, _, rfl, (sub_nil H).one 3, Nat.zero_le _, by rw [HP.out]⟩
  have j1 : (r1.toList = []) = False := eq_false (isN hz1)
  have j1b : r1.toList.isEmpty = false := by cases hh : r1.toList with
    | nil => exact absurd hh (isN hz1)
    | cons _ _ => rfl
  have j3 : (0 < r1.size) = True := eq_true (by omega)
  have j4 : (1 ≤ r1.size) = True := eq_true (by omega)
  have j5 : ((0 : Int) < (r1.size : Int)) = True := eq_true (by omega)
  have j6 : ((1 : Int) ≤ (r1.size : Int)) = True := eq_true (by omega)
  have hb1 := bytes_cons (s := r1) (of_eq_true j3)
  have hrs1 : (r1.extract 1 r1.size).size = r1.size - 1 := by rw [ByteArray.size_extract]; omega
  have HB1 := am_ (And.intro hb1 hrs1)
  have HZ1 := am_ hz1
  clear hz1 hb1 hrs1
  refine ⟨_, rfl, ?_⟩
  go_wp2_with (first | ((with_reducible refine gate_dst (N := 13) rfl ?_); refine nw_ H 13 zt 29 rfl ?_; clear H; intro g13 w5 H; replace H := H.nn; have F2 := H.f3 2) | ((with_reducible refine gate_store (p := 13) rfl ?_); refine p3_ H 13 2 rfl ?_; clear H F2; intro w5 H; replace H := H.nn; have F2 := H.f3 2; have F0 := H.f3 0))
  · rename_i hk
    refine start_ (n := 4) (S := (fun w' => True)) (ds := []) #[false, false, false, false] (by kernel_rfl) rfl rfl (trivial) (fun hHeld => ?_); refine with_tabW tab26 bits26 (fun HT_ HW_ => ?_)
    replace H := H.drew
    refine ph_ 0 98 #[true, false, false, false] HT_ ?_
    refine ph_ 1 99 #[true, true, false, false] HT_ ?_
    refine ph_ 2 15 #[true, true, true, false] HT_ ?_
    refine ph_ 3 8 #[true, true, true, true] HT_ ?_
    refine done_ (done_of HT_.out (by kernel_rfl)) ?_
    clear HT_ HW_ hHeld F0 F2
    generalize World.drew _ = w6 at H ⊢
    have F0 := H.f3 0
    have F2 := H.f3 2
    generalize hrv1 : r1.extract 1 r1.size = rs1 at *
    have HR2 := am_ (show rs1.size ≤ 140737488351232 from by have := HB1.out.2; have := HR1.out; omega)
    have HK : Aside0 (sgn l1 = (6, bytesOf rs1)) := ⟨by rw [← HP1.out.2, HB1.out.1]; simp only [sgn]; rw [if_pos (eq_of_beq hk)]⟩
    go_wp2_with (((with_reducible refine gate_dst (N := 108) rfl ?_); (first | (refine gL_ (some 108) Try.func48 #[.string rs1, .int .i64 (wrap64 (n1 - 1))] ?_; rw [hdd]) | refine gL_ (some 108) Try.func48 #[.string rs1, .int .i64 d] ?_); refine (HIH.out rs1 _ (HR2.out)).mono ?_; rintro e w4 ⟨v, q2, r2, ok2, rfl, H2, hr, hm⟩; obtain ⟨A2, c2, rfl, -, -⟩ := H2.tv 0; replace H := (H.call H2).nn; have HM2 := am_ (And.intro hr hm); clear H2 hr hm); clear F0 F2; have F0 := H.f3 0; have F2 := H.f3 2)
    have HP3 : Aside0 (res = (pN d (bytesOf rs1)).bind fun y => match y.2 with
        | c :: r => if c = 41 then some (op2 6 x1 y.1, r) else none
        | [] => none) := ⟨by
      rw [HP0.out, HP1.out.1]
      show (pN d (sgn l1).2).bind _ = _
      rw [HK.out]⟩
    cases ok2
    · have HP : Aside0 (res = none) := ⟨by
        rw [HP3.out]
        have hm := HM2.out.2
        cases hp : pN d (bytesOf rs1) with
        | none => rfl
        | some x => rw [hp] at hm; exact absurd hm.1 (by decide)⟩
      refine ⟨_, rfl, ?_⟩
      go_wp2_with (first | ((with_reducible refine gate_dst (N := 16) rfl ?_); refine nw_ H 16 zt 29 rfl ?_; clear H; intro g16 w7 H; replace H := H.nn; have F4 := H.f3 4) | ((with_reducible refine gate_store (p := 16) rfl ?_); refine p3_ H 16 4 rfl ?_; clear H F4; intro w7 H; replace H := H.nn; have F4 := H.f3 4; have F2 := H.f3 2; have F0 := H.f3 0) | ((with_reducible refine gate_store (p := 4) rfl ?_); refine p3_ H 4 0 rfl ?_; clear H F0; intro w7 H; replace H := H.nn))
      refine bodyPost_ret (results_ctt rfl _ _ g4 29 _ (0, 0) _ rfl (H.blk 0 rfl) hu rfl (by kernel_rfl)) rfl ?_
      exact ⟨_, ⟨0, ⟨#[]⟩, []⟩, _, _, rfl, (sub_nil H).one 5, Nat.zero_le _, by rw [HP.out]⟩
    obtain ⟨x2, l2, hp2, rfl, hl2⟩ : ∃ x2 l2, pN d (bytesOf rs1) = some (x2, l2) ∧ q2 = tr x2 ∧ bytesOf r2 = l2 := by
      have hm := HM2.out.2
      cases hp : pN d (bytesOf rs1) with
      | none => rw [hp] at hm; cases hm
      | some x => rw [hp] at hm; exact ⟨x.1, x.2, rfl, hm.2⟩
    have HP4 : Aside0 (res = match bytesOf r2 with
        | c :: r => if c = 41 then some (op2 6 x1 x2, r) else none
        | [] => none) := ⟨by rw [HP3.out, hp2, hl2]; rfl⟩
    have HZ2 : Aside0 (r2.size ≤ rs1.size) := ⟨HM2.out.1⟩
    clear hp2 hl2 HM2 HP3
    by_cases hz2 : r2.size = 0
    · have i1 := isE hz2
      have HP : Aside0 (res = none) := ⟨by
        rw [HP4.out, show bytesOf r2 = [] from List.eq_nil_of_length_eq_zero (by rw [len_bytes]; exact hz2)]⟩
      clear hz2
      refine ⟨_, rfl, ?_⟩
      go_wp2_with (first | ((with_reducible refine gate_dst (N := 16) rfl ?_); refine nw_ H 16 zt 29 rfl ?_; clear H; intro g16 w7 H; replace H := H.nn; have F4 := H.f3 4) | ((with_reducible refine gate_store (p := 16) rfl ?_); refine p3_ H 16 4 rfl ?_; clear H F4; intro w7 H; replace H := H.nn; have F4 := H.f3 4; have F2 := H.f3 2; have F0 := H.f3 0) | ((with_reducible refine gate_store (p := 4) rfl ?_); refine p3_ H 4 0 rfl ?_; clear H F0; intro w7 H; replace H := H.nn))
      refine bodyPost_ret (results_ctt rfl _ _ g4 29 _ (0, 0) _ rfl (H.blk 0 rfl) hu rfl (by kernel_rfl)) rfl ?_
      exact ⟨_, ⟨0, ⟨#[]⟩, []⟩, _, _, rfl, (sub_nil H).one 5, Nat.zero_le _, by rw [HP.out]⟩
    have k1 : (r2.toList = []) = False := eq_false (isN hz2)
    have k1b : r2.toList.isEmpty = false := by cases hh : r2.toList with
      | nil => exact absurd hh (isN hz2)
      | cons _ _ => rfl
    have k3 : (0 < r2.size) = True := eq_true (by omega)
    have k4 : (1 ≤ r2.size) = True := eq_true (by omega)
    have k5 : ((0 : Int) < (r2.size : Int)) = True := eq_true (by omega)
    have k6 : ((1 : Int) ≤ (r2.size : Int)) = True := eq_true (by omega)
    have hb2 := bytes_cons (s := r2) (of_eq_true k3)
    have hrs2 : (r2.extract 1 r2.size).size = r2.size - 1 := by rw [ByteArray.size_extract]; omega
    have HB2 := am_ (And.intro hb2 hrs2)
    clear hz2 hb2 hrs2
    refine ⟨_, rfl, ?_⟩
    go_wp2_with (first | ((with_reducible refine gate_dst (N := 16) rfl ?_); refine nw_ H 16 zt 29 rfl ?_; clear H; intro g16 w7 H; replace H := H.nn; have F4 := H.f3 4) | ((with_reducible refine gate_store (p := 16) rfl ?_); refine p3_ H 16 4 rfl ?_; clear H F4; intro w7 H; replace H := H.nn; have F4 := H.f3 4; have F2 := H.f3 2; have F0 := H.f3 0) | ((with_reducible refine gate_store (p := 4) rfl ?_); refine p3_ H 4 0 rfl ?_; clear H F0; intro w7 H; replace H := H.nn))
    · have hk3 : (((r2[0]'(of_eq_true k3)).toNat : Int) != 41) = true := by assumption
      have HP : Aside0 (res = none) := ⟨by rw [HP4.out, HB2.out.1]; exact if_neg (by simpa using hk3)⟩
      refine bodyPost_ret (results_ctt rfl _ _ g4 29 _ (0, 0) _ rfl (H.blk 0 rfl) hu rfl (by kernel_rfl)) rfl ?_
      exact ⟨_, ⟨0, ⟨#[]⟩, []⟩, _, _, rfl, (sub_nil H).one 5, Nat.zero_le _, by rw [HP.out]⟩
    · have hk3 : (((r2[0]'(of_eq_true k3)).toNat : Int) != 41) = false := by assumption
      have HP : Aside0 (res = some (op2 6 x1 x2, bytesOf (r2.extract 1 r2.size))) := ⟨by rw [HP4.out, HB2.out.1]; exact if_pos (by simpa using hk3)⟩
      have F0 := H.f3 0
      have F2 := H.f3 2
      have F4 := H.f3 4
      refine start_ (n := 10) (S := (fun w' => w'.cell? ⟨g13, 0, none⟩ = some (.int .i64 (tr x1).f0) ∧ w'.cell? ⟨g13, 1, none⟩ = some (.string (tr x1).f1) ∧ w'.cell? ⟨g13, 2, none⟩ = some (.slice A1 (tr x1).f2.length c1) ∧ w'.cell? ⟨g16, 0, none⟩ = some (.int .i64 (tr x2).f0) ∧ w'.cell? ⟨g16, 1, none⟩ = some (.string (tr x2).f1) ∧ w'.cell? ⟨g16, 2, none⟩ = some (.slice A2 (tr x2).f2.length c2))) (ds := [3, 7]) (bl 10 0) (by kernel_rfl) rfl rfl (⟨F2.1.1, F2.2.1.1, F2.2.2.1, F4.1.1, F4.2.1.1, F4.2.2.1⟩) (fun hHeld => ?_); refine with_tabW tab32 bits32 (fun HT_ HW_ => ?_)
      replace H := H.drew
      clear F0 F2 F4
      refine ph_ 0 124 (bl 10 1) HT_ ?_
      refine ph_ 5 129 (bl 10 33) HT_ ?_
      refine ph_ 6 130 (bl 10 97) HT_ ?_
      refine th_ 1 125 (bl 10 99) HT_ HW_ hHeld ?_
      refine th_ 2 126 (bl 10 103) HT_ HW_ hHeld ?_
      refine last_ (i := 3) (N := some 127) (bl 10 111) rfl rfl (one_of HT_.out (by kernel_rfl)) (by decide) (fun K hK => ?_)
      refine bb_ (t1 := tr x1) (t2 := tr x2) H 1 3 (fun h2 w11 H _ => ?_)
      refine hK.out _ _ ?_
      clear hK K
      refine nm_ 127 ?_
      refine ph_ 4 128 (bl 10 127) HT_ ?_
      refine last_ (i := 7) (N := none) (bl 10 255) rfl rfl (one_of HT_.out (by kernel_rfl)) (by decide) (fun K hK => ?_)
      have F1 := H.f3 0
      refine s3_ H 0 (fun w4 H => ?_)
      refine hK.out _ _ ?_
      clear hK K F1
      refine ph_ 8 5 (bl 10 511) HT_ ?_
      refine ph_ 9 6 (bl 10 1023) HT_ ?_
      refine done_ (done_of HT_.out (by kernel_rfl)) ?_
      clear HT_ HW_ hHeld
      go_wp2
      refine bodyPost_ret (results_ctt rfl _ _ g4 29 _ (0, 0) _ rfl (H.blk 0 rfl) hu rfl (by kernel_rfl)) rfl ?_
      refine ⟨_, ⟨6, ⟨#[]⟩, [tr x1, tr x2]⟩, _, _, rfl, H.one 1, by have := HS.out; have := HM1.out.1; have := HB1.out.2; have := HZ2.out; have := HB2.out.2; omega, ?_⟩
      rw [HP.out]
      exact ⟨rfl, rfl, rfl⟩
  · rename_i hk1 hk2
    refine start_ (n := 4) (S := (fun w' => True)) (ds := []) #[false, false, false, false] (by kernel_rfl) rfl rfl (trivial) (fun hHeld => ?_); refine with_tabW tab28 bits26 (fun HT_ HW_ => ?_)
    replace H := H.drew
    refine ph_ 0 102 #[true, false, false, false] HT_ ?_
    refine ph_ 1 103 #[true, true, false, false] HT_ ?_
    refine ph_ 2 15 #[true, true, true, false] HT_ ?_
    refine ph_ 3 8 #[true, true, true, true] HT_ ?_
    refine done_ (done_of HT_.out (by kernel_rfl)) ?_
    clear HT_ HW_ hHeld F0 F2
    generalize World.drew _ = w6 at H ⊢
    have F0 := H.f3 0
    have F2 := H.f3 2
    generalize hrv1 : r1.extract 1 r1.size = rs1 at *
    have HR2 := am_ (show rs1.size ≤ 140737488351232 from by have := HB1.out.2; have := HR1.out; omega)
    have HK : Aside0 (sgn l1 = (7, bytesOf rs1)) := ⟨by rw [← HP1.out.2, HB1.out.1]; simp only [sgn]; rw [if_neg (by simpa using hk1), if_pos (by simpa using hk2)]⟩
    go_wp2_with (((with_reducible refine gate_dst (N := 108) rfl ?_); (first | (refine gL_ (some 108) Try.func48 #[.string rs1, .int .i64 (wrap64 (n1 - 1))] ?_; rw [hdd]) | refine gL_ (some 108) Try.func48 #[.string rs1, .int .i64 d] ?_); refine (HIH.out rs1 _ (HR2.out)).mono ?_; rintro e w4 ⟨v, q2, r2, ok2, rfl, H2, hr, hm⟩; obtain ⟨A2, c2, rfl, -, -⟩ := H2.tv 0; replace H := (H.call H2).nn; have HM2 := am_ (And.intro hr hm); clear H2 hr hm); clear F0 F2; have F0 := H.f3 0; have F2 := H.f3 2)
    have HP3 : Aside0 (res = (pN d (bytesOf rs1)).bind fun y => match y.2 with
        | c :: r => if c = 41 then some (op2 7 x1 y.1, r) else none
        | [] => none) := ⟨by
      rw [HP0.out, HP1.out.1]
      show (pN d (sgn l1).2).bind _ = _
      rw [HK.out]⟩
    cases ok2
    · have HP : Aside0 (res = none) := ⟨by
        rw [HP3.out]
        have hm := HM2.out.2
        cases hp : pN d (bytesOf rs1) with
        | none => rfl
        | some x => rw [hp] at hm; exact absurd hm.1 (by decide)⟩
      refine ⟨_, rfl, ?_⟩
      go_wp2_with (first | ((with_reducible refine gate_dst (N := 16) rfl ?_); refine nw_ H 16 zt 29 rfl ?_; clear H; intro g16 w7 H; replace H := H.nn; have F4 := H.f3 4) | ((with_reducible refine gate_store (p := 16) rfl ?_); refine p3_ H 16 4 rfl ?_; clear H F4; intro w7 H; replace H := H.nn; have F4 := H.f3 4; have F2 := H.f3 2; have F0 := H.f3 0) | ((with_reducible refine gate_store (p := 4) rfl ?_); refine p3_ H 4 0 rfl ?_; clear H F0; intro w7 H; replace H := H.nn))
      refine bodyPost_ret (results_ctt rfl _ _ g4 29 _ (0, 0) _ rfl (H.blk 0 rfl) hu rfl (by kernel_rfl)) rfl ?_
      exact ⟨_, ⟨0, ⟨#[]⟩, []⟩, _, _, rfl, (sub_nil H).one 5, Nat.zero_le _, by rw [HP.out]⟩
    obtain ⟨x2, l2, hp2, rfl, hl2⟩ : ∃ x2 l2, pN d (bytesOf rs1) = some (x2, l2) ∧ q2 = tr x2 ∧ bytesOf r2 = l2 := by
      have hm := HM2.out.2
      cases hp : pN d (bytesOf rs1) with
      | none => rw [hp] at hm; cases hm
      | some x => rw [hp] at hm; exact ⟨x.1, x.2, rfl, hm.2⟩
    have HP4 : Aside0 (res = match bytesOf r2 with
        | c :: r => if c = 41 then some (op2 7 x1 x2, r) else none
        | [] => none) := ⟨by rw [HP3.out, hp2, hl2]; rfl⟩
    have HZ2 : Aside0 (r2.size ≤ rs1.size) := ⟨HM2.out.1⟩
    clear hp2 hl2 HM2 HP3
    by_cases hz2 : r2.size = 0
    · have i1 := isE hz2
      have HP : Aside0 (res = none) := ⟨by
        rw [HP4.out, show bytesOf r2 = [] from List.eq_nil_of_length_eq_zero (by rw [len_bytes]; exact hz2)]⟩
      clear hz2
      refine ⟨_, rfl, ?_⟩
      go_wp2_with (first | ((with_reducible refine gate_dst (N := 16) rfl ?_); refine nw_ H 16 zt 29 rfl ?_; clear H; intro g16 w7 H; replace H := H.nn; have F4 := H.f3 4) | ((with_reducible refine gate_store (p := 16) rfl ?_); refine p3_ H 16 4 rfl ?_; clear H F4; intro w7 H; replace H := H.nn; have F4 := H.f3 4; have F2 := H.f3 2; have F0 := H.f3 0) | ((with_reducible refine gate_store (p := 4) rfl ?_); refine p3_ H 4 0 rfl ?_; clear H F0; intro w7 H; replace H := H.nn))
      refine bodyPost_ret (results_ctt rfl _ _ g4 29 _ (0, 0) _ rfl (H.blk 0 rfl) hu rfl (by kernel_rfl)) rfl ?_
      exact ⟨_, ⟨0, ⟨#[]⟩, []⟩, _, _, rfl, (sub_nil H).one 5, Nat.zero_le _, by rw [HP.out]⟩
    have k1 : (r2.toList = []) = False := eq_false (isN hz2)
    have k1b : r2.toList.isEmpty = false := by cases hh : r2.toList with
      | nil => exact absurd hh (isN hz2)
      | cons _ _ => rfl
    have k3 : (0 < r2.size) = True := eq_true (by omega)
    have k4 : (1 ≤ r2.size) = True := eq_true (by omega)
    have k5 : ((0 : Int) < (r2.size : Int)) = True := eq_true (by omega)
    have k6 : ((1 : Int) ≤ (r2.size : Int)) = True := eq_true (by omega)
    have hb2 := bytes_cons (s := r2) (of_eq_true k3)
    have hrs2 : (r2.extract 1 r2.size).size = r2.size - 1 := by rw [ByteArray.size_extract]; omega
    have HB2 := am_ (And.intro hb2 hrs2)
    clear hz2 hb2 hrs2
    refine ⟨_, rfl, ?_⟩
    go_wp2_with (first | ((with_reducible refine gate_dst (N := 16) rfl ?_); refine nw_ H 16 zt 29 rfl ?_; clear H; intro g16 w7 H; replace H := H.nn; have F4 := H.f3 4) | ((with_reducible refine gate_store (p := 16) rfl ?_); refine p3_ H 16 4 rfl ?_; clear H F4; intro w7 H; replace H := H.nn; have F4 := H.f3 4; have F2 := H.f3 2; have F0 := H.f3 0) | ((with_reducible refine gate_store (p := 4) rfl ?_); refine p3_ H 4 0 rfl ?_; clear H F0; intro w7 H; replace H := H.nn))
    · have hk3 : (((r2[0]'(of_eq_true k3)).toNat : Int) != 41) = true := by assumption
      have HP : Aside0 (res = none) := ⟨by rw [HP4.out, HB2.out.1]; exact if_neg (by simpa using hk3)⟩
      refine bodyPost_ret (results_ctt rfl _ _ g4 29 _ (0, 0) _ rfl (H.blk 0 rfl) hu rfl (by kernel_rfl)) rfl ?_
      exact ⟨_, ⟨0, ⟨#[]⟩, []⟩, _, _, rfl, (sub_nil H).one 5, Nat.zero_le _, by rw [HP.out]⟩
    · have hk3 : (((r2[0]'(of_eq_true k3)).toNat : Int) != 41) = false := by assumption
      have HP : Aside0 (res = some (op2 7 x1 x2, bytesOf (r2.extract 1 r2.size))) := ⟨by rw [HP4.out, HB2.out.1]; exact if_pos (by simpa using hk3)⟩
      have F0 := H.f3 0
      have F2 := H.f3 2
      have F4 := H.f3 4
      refine start_ (n := 10) (S := (fun w' => w'.cell? ⟨g13, 0, none⟩ = some (.int .i64 (tr x1).f0) ∧ w'.cell? ⟨g13, 1, none⟩ = some (.string (tr x1).f1) ∧ w'.cell? ⟨g13, 2, none⟩ = some (.slice A1 (tr x1).f2.length c1) ∧ w'.cell? ⟨g16, 0, none⟩ = some (.int .i64 (tr x2).f0) ∧ w'.cell? ⟨g16, 1, none⟩ = some (.string (tr x2).f1) ∧ w'.cell? ⟨g16, 2, none⟩ = some (.slice A2 (tr x2).f2.length c2))) (ds := [3, 7]) (bl 10 0) (by kernel_rfl) rfl rfl (⟨F2.1.1, F2.2.1.1, F2.2.2.1, F4.1.1, F4.2.1.1, F4.2.2.1⟩) (fun hHeld => ?_); refine with_tabW tab32 bits32 (fun HT_ HW_ => ?_)
      replace H := H.drew
      clear F0 F2 F4
      refine ph_ 0 124 (bl 10 1) HT_ ?_
      refine ph_ 5 129 (bl 10 33) HT_ ?_
      refine ph_ 6 130 (bl 10 97) HT_ ?_
      refine th_ 1 125 (bl 10 99) HT_ HW_ hHeld ?_
      refine th_ 2 126 (bl 10 103) HT_ HW_ hHeld ?_
      refine last_ (i := 3) (N := some 127) (bl 10 111) rfl rfl (one_of HT_.out (by kernel_rfl)) (by decide) (fun K hK => ?_)
      refine bb_ (t1 := tr x1) (t2 := tr x2) H 1 3 (fun h2 w11 H _ => ?_)
      refine hK.out _ _ ?_
      clear hK K
      refine nm_ 127 ?_
      refine ph_ 4 128 (bl 10 127) HT_ ?_
      refine last_ (i := 7) (N := none) (bl 10 255) rfl rfl (one_of HT_.out (by kernel_rfl)) (by decide) (fun K hK => ?_)
      have F1 := H.f3 0
      refine s3_ H 0 (fun w4 H => ?_)
      refine hK.out _ _ ?_
      clear hK K F1
      refine ph_ 8 5 (bl 10 511) HT_ ?_
      refine ph_ 9 6 (bl 10 1023) HT_ ?_
      refine done_ (done_of HT_.out (by kernel_rfl)) ?_
      clear HT_ HW_ hHeld
      go_wp2
      refine bodyPost_ret (results_ctt rfl _ _ g4 29 _ (0, 0) _ rfl (H.blk 0 rfl) hu rfl (by kernel_rfl)) rfl ?_
      refine ⟨_, ⟨7, ⟨#[]⟩, [tr x1, tr x2]⟩, _, _, rfl, H.one 1, by have := HS.out; have := HM1.out.1; have := HB1.out.2; have := HZ2.out; have := HB2.out.2; omega, ?_⟩
      rw [HP.out]
      exact ⟨rfl, rfl, rfl⟩
  · rename_i K hK
    have hk1 : (((r1[0]'(of_eq_true j3)).toNat : Int) == 124) = false := by assumption
    have hk2 : (((r1[0]'(of_eq_true j3)).toNat : Int) == 38) = false := by assumption
    have HK : Aside0 (sgn l1 = (5, bytesOf r1)) := ⟨by rw [← HP1.out.2, HB1.out.1]; simp only [sgn]; rw [if_neg (by simpa using hk1), if_neg (by simpa using hk2)]⟩
    refine (HIH.out r1 _ HR1.out).mono ?_
    rintro e w4 ⟨v, q2, r2, ok2, rfl, H2, hr, hm⟩
    obtain ⟨A2, c2, rfl, -, -⟩ := H2.tv 0
    replace H := (H.call H2).nn
    have HM2 := am_ (And.intro hr hm)
    clear H2 hr hm F2
    have F0 := H.f3 0
    have F2 := H.f3 2
    have HP3 : Aside0 (res = (pN d (bytesOf r1)).bind fun y => match y.2 with
        | c :: r => if c = 41 then some (op2 5 x1 y.1, r) else none
        | [] => none) := ⟨by
      rw [HP0.out, HP1.out.1]
      show (pN d (sgn l1).2).bind _ = _
      rw [HK.out]⟩
    cases ok2
    · have HP : Aside0 (res = none) := ⟨by
        rw [HP3.out]
        have hm := HM2.out.2
        cases hp : pN d (bytesOf r1) with
        | none => rfl
        | some x => rw [hp] at hm; exact absurd hm.1 (by decide)⟩
      refine hK _ _ ?_
      go_wp2_with (first | ((with_reducible refine gate_dst (N := 16) rfl ?_); refine nw_ H 16 zt 29 rfl ?_; clear H; intro g16 w7 H; replace H := H.nn; have F4 := H.f3 4) | ((with_reducible refine gate_store (p := 16) rfl ?_); refine p3_ H 16 4 rfl ?_; clear H F4; intro w7 H; replace H := H.nn; have F4 := H.f3 4; have F2 := H.f3 2; have F0 := H.f3 0) | ((with_reducible refine gate_store (p := 4) rfl ?_); refine p3_ H 4 0 rfl ?_; clear H F0; intro w7 H; replace H := H.nn))
      refine bodyPost_ret (results_ctt rfl _ _ g4 29 _ (0, 0) _ rfl (H.blk 0 rfl) hu rfl (by kernel_rfl)) rfl ?_
      exact ⟨_, ⟨0, ⟨#[]⟩, []⟩, _, _, rfl, (sub_nil H).one 5, Nat.zero_le _, by rw [HP.out]⟩
    obtain ⟨x2, l2, hp2, rfl, hl2⟩ : ∃ x2 l2, pN d (bytesOf r1) = some (x2, l2) ∧ q2 = tr x2 ∧ bytesOf r2 = l2 := by
      have hm := HM2.out.2
      cases hp : pN d (bytesOf r1) with
      | none => rw [hp] at hm; cases hm
      | some x => rw [hp] at hm; exact ⟨x.1, x.2, rfl, hm.2⟩
    have HP4 : Aside0 (res = match bytesOf r2 with
        | c :: r => if c = 41 then some (op2 5 x1 x2, r) else none
        | [] => none) := ⟨by rw [HP3.out, hp2, hl2]; rfl⟩
    have HZ2 : Aside0 (r2.size ≤ r1.size) := ⟨HM2.out.1⟩
    clear hp2 hl2 HM2 HP3
    by_cases hz2 : r2.size = 0
    · have i1 := isE hz2
      have HP : Aside0 (res = none) := ⟨by
        rw [HP4.out, show bytesOf r2 = [] from List.eq_nil_of_length_eq_zero (by rw [len_bytes]; exact hz2)]⟩
      clear hz2
      refine hK _ _ ?_
      go_wp2_with (first | ((with_reducible refine gate_dst (N := 16) rfl ?_); refine nw_ H 16 zt 29 rfl ?_; clear H; intro g16 w7 H; replace H := H.nn; have F4 := H.f3 4) | ((with_reducible refine gate_store (p := 16) rfl ?_); refine p3_ H 16 4 rfl ?_; clear H F4; intro w7 H; replace H := H.nn; have F4 := H.f3 4; have F2 := H.f3 2; have F0 := H.f3 0) | ((with_reducible refine gate_store (p := 4) rfl ?_); refine p3_ H 4 0 rfl ?_; clear H F0; intro w7 H; replace H := H.nn))
      refine bodyPost_ret (results_ctt rfl _ _ g4 29 _ (0, 0) _ rfl (H.blk 0 rfl) hu rfl (by kernel_rfl)) rfl ?_
      exact ⟨_, ⟨0, ⟨#[]⟩, []⟩, _, _, rfl, (sub_nil H).one 5, Nat.zero_le _, by rw [HP.out]⟩
    have k1 : (r2.toList = []) = False := eq_false (isN hz2)
    have k1b : r2.toList.isEmpty = false := by cases hh : r2.toList with
      | nil => exact absurd hh (isN hz2)
      | cons _ _ => rfl
    have k3 : (0 < r2.size) = True := eq_true (by omega)
    have k4 : (1 ≤ r2.size) = True := eq_true (by omega)
    have k5 : ((0 : Int) < (r2.size : Int)) = True := eq_true (by omega)
    have k6 : ((1 : Int) ≤ (r2.size : Int)) = True := eq_true (by omega)
    have hb2 := bytes_cons (s := r2) (of_eq_true k3)
    have hrs2 : (r2.extract 1 r2.size).size = r2.size - 1 := by rw [ByteArray.size_extract]; omega
    have HB2 := am_ (And.intro hb2 hrs2)
    clear hz2 hb2 hrs2
    refine hK _ _ ?_
    go_wp2_with (first | ((with_reducible refine gate_dst (N := 16) rfl ?_); refine nw_ H 16 zt 29 rfl ?_; clear H; intro g16 w7 H; replace H := H.nn; have F4 := H.f3 4) | ((with_reducible refine gate_store (p := 16) rfl ?_); refine p3_ H 16 4 rfl ?_; clear H F4; intro w7 H; replace H := H.nn; have F4 := H.f3 4; have F2 := H.f3 2; have F0 := H.f3 0) | ((with_reducible refine gate_store (p := 4) rfl ?_); refine p3_ H 4 0 rfl ?_; clear H F0; intro w7 H; replace H := H.nn))
    · have hk3 : (((r2[0]'(of_eq_true k3)).toNat : Int) != 41) = true := by assumption
      have HP : Aside0 (res = none) := ⟨by rw [HP4.out, HB2.out.1]; exact if_neg (by simpa using hk3)⟩
      refine bodyPost_ret (results_ctt rfl _ _ g4 29 _ (0, 0) _ rfl (H.blk 0 rfl) hu rfl (by kernel_rfl)) rfl ?_
      exact ⟨_, ⟨0, ⟨#[]⟩, []⟩, _, _, rfl, (sub_nil H).one 5, Nat.zero_le _, by rw [HP.out]⟩
    · have hk3 : (((r2[0]'(of_eq_true k3)).toNat : Int) != 41) = false := by assumption
      have HP : Aside0 (res = some (op2 5 x1 x2, bytesOf (r2.extract 1 r2.size))) := ⟨by rw [HP4.out, HB2.out.1]; exact if_pos (by simpa using hk3)⟩
      have F0 := H.f3 0
      have F2 := H.f3 2
      have F4 := H.f3 4
      refine start_ (n := 10) (S := (fun w' => w'.cell? ⟨g13, 0, none⟩ = some (.int .i64 (tr x1).f0) ∧ w'.cell? ⟨g13, 1, none⟩ = some (.string (tr x1).f1) ∧ w'.cell? ⟨g13, 2, none⟩ = some (.slice A1 (tr x1).f2.length c1) ∧ w'.cell? ⟨g16, 0, none⟩ = some (.int .i64 (tr x2).f0) ∧ w'.cell? ⟨g16, 1, none⟩ = some (.string (tr x2).f1) ∧ w'.cell? ⟨g16, 2, none⟩ = some (.slice A2 (tr x2).f2.length c2))) (ds := [3, 7]) (bl 10 0) (by kernel_rfl) rfl rfl (⟨F2.1.1, F2.2.1.1, F2.2.2.1, F4.1.1, F4.2.1.1, F4.2.2.1⟩) (fun hHeld => ?_); refine with_tabW tab32 bits32 (fun HT_ HW_ => ?_)
      replace H := H.drew
      clear F0 F2 F4
      refine ph_ 0 124 (bl 10 1) HT_ ?_
      refine ph_ 5 129 (bl 10 33) HT_ ?_
      refine ph_ 6 130 (bl 10 97) HT_ ?_
      refine th_ 1 125 (bl 10 99) HT_ HW_ hHeld ?_
      refine th_ 2 126 (bl 10 103) HT_ HW_ hHeld ?_
      refine last_ (i := 3) (N := some 127) (bl 10 111) rfl rfl (one_of HT_.out (by kernel_rfl)) (by decide) (fun K hK => ?_)
      refine bb_ (t1 := tr x1) (t2 := tr x2) H 1 3 (fun h2 w11 H _ => ?_)
      refine hK.out _ _ ?_
      clear hK K
      refine nm_ 127 ?_
      refine ph_ 4 128 (bl 10 127) HT_ ?_
      refine last_ (i := 7) (N := none) (bl 10 255) rfl rfl (one_of HT_.out (by kernel_rfl)) (by decide) (fun K hK => ?_)
      have F1 := H.f3 0
      refine s3_ H 0 (fun w4 H => ?_)
      refine hK.out _ _ ?_
      clear hK K F1
      refine ph_ 8 5 (bl 10 511) HT_ ?_
      refine ph_ 9 6 (bl 10 1023) HT_ ?_
      refine done_ (done_of HT_.out (by kernel_rfl)) ?_
      clear HT_ HW_ hHeld
      go_wp2
      refine bodyPost_ret (results_ctt rfl _ _ g4 29 _ (0, 0) _ rfl (H.blk 0 rfl) hu rfl (by kernel_rfl)) rfl ?_
      refine ⟨_, ⟨5, ⟨#[]⟩, [tr x1, tr x2]⟩, _, _, rfl, H.one 1, by have := HS.out; have := HM1.out.1; have := HB1.out.2; have := HZ2.out; have := HB2.out.2; omega, ?_⟩
      rw [HP.out]
      exact ⟨rfl, rfl, rfl⟩
theorem readCalls : ∀ d : Nat, d ≤ 1000 → RdAt d
  | 0, _ => fun s w _ => rdFail 0 s w (Or.inr rfl)
  | d + 1, hd => fun s w hs => by
    by_cases hz : s.size = 0
    · have := rdFail (d + 1) s w (Or.inl hz)
      rw [show bytesOf s = [] from List.eq_nil_of_length_eq_zero (by rw [len_bytes]; exact hz)]
      exact this
    · exact rdStep d s w hs hd hz (readCalls d (by omega))
end Go.Proofs.Ytldgkgdgcfllmaa
end
section
namespace Go.Proofs.Ytldgkgdgcfllmaa
open Go.RowKit Go.Shelf Go.Proofs.Ytldgkgdgcfllmaa.P Go.Proofs.Ytldgkgdgcfllmaa.Pl Go.Proofs.Ytldgkgdgcfllmaa.Rg Go.Proofs.YtldgkgdgcfllmaaW.PrintWords Go.Proofs.YtldgkgdgcfllmaaW.PrintLast Go.Proofs.YtldgkgdgcfllmaaW.PrintMore
set_option linter.unusedVariables false
set_option linter.unusedSimpArgs false
section
variable {s : ByteArray} {b : Bool} {n m : Nat} {c : Int}
theorem rd_leaf {x : Rx} (h : TK s b n m c true) (hx : ∀ t, lf false (c :: t) = some (x, t)) : RdR (lf b ((bytesOf s).drop n)) s m b (tr x) := by
  obtain ⟨hb, hm, t, h1, h2⟩ := h.yes
  subst hb
  refine ⟨h.le, ?_⟩
  rw [h1, hx]
  exact ⟨rfl, rfl, h2⟩
theorem rd_none {q : Tr} (hn : n ≤ s.size) (h : b = false → ∀ t, (bytesOf s).drop n ≠ 48 :: t ∧ (bytesOf s).drop n ≠ 49 :: t ∧ (bytesOf s).drop n ≠ 46 :: t ∧ ∀ j : Nat, j < 3 → (bytesOf s).drop n ≠ (97 + j : Int) :: t) : RdR (lf b ((bytesOf s).drop n)) s n true q := by
  refine ⟨hn, ?_⟩
  have e : lf b ((bytesOf s).drop n) = none := by
    cases b with
    | true => rfl
    | false =>
      replace h := h rfl
      generalize (bytesOf s).drop n = l at h
      cases l with
      | nil => rfl
      | cons c t =>
        obtain ⟨h1, h2, h3, h4⟩ := h t
        have a0 := h4 0 (by omega)
        have a1 := h4 1 (by omega)
        have a2 := h4 2 (by omega)
        simp only [lf]
        rw [if_neg (by decide), if_neg (fun e => h1 (by rw [e])), if_neg (fun e => h2 (by rw [e])), if_neg (fun e => h3 (by rw [e])), if_neg]
        rintro (e | e | e)
        · exact a0 (by rw [e]; rfl)
        · exact a1 (by rw [e]; rfl)
        · exact a2 (by rw [e]; rfl)
  rw [e]
end
set_option maxHeartbeats 40000000 in
set_option maxRecDepth 100000 in
theorem leafCall {w0 w : World} {g n : Nat} {s : ByteArray} {b : Bool} {p : Pc} (H : Sl w0 w [rbox g s n b, p]) (hn : n ≤ s.size) (hs : s.size ≤ 140737488351232) :
    Calls Try.prog 72 #[.pointer (some ⟨g, 0, none⟩)] w fun e w' => ∃ q m b', e = .returned (.agg #[.int .i64 q.f0, .string q.f1, .slice none 0 0]) ∧ q.f2 = [] ∧ Sl w0 w' [rbox g s m b', p] ∧ RdR (lf b ((bytesOf s).drop n)) s m b' q := by
  have HS := am_ hs
  have HN := am_ hn
  have hu := Try.underlying29
  have F0 := H.f3 0
  clear hs hn
  go_enter Try.func72, Try.ntmps72
  go_wp2_with (first | (refine nw_ H 2 zt 29 rfl ?_; clear H F0; intro g2 w1 H; have F0 := H.f3 0; have F2 := H.f3 2) | (refine p3_ H 2 2 rfl ?_; clear H F0 F2; intro w1 H) |
    ((with_reducible refine gate_dst (N := 6) rfl ?_); refine gL_ (some 6) Try.func71 #[.pointer (some ⟨g, 0, none⟩), .string ⟨#[48]⟩] ?_; refine (takeCall H 0 rfl HN.out HS.out 48).mono ?_; rintro e w2 ⟨r1, m1, rfl, H2, HT1⟩; clear H F0 F2; have H := H2; clear H2; replace HT1 := am_ HT1; have F0 := H.f3 0; have F2 := H.f3 2; refine ⟨_, rfl, ?_⟩) |
    ((with_reducible refine gate_dst (N := 10) rfl ?_); refine gL_ (some 10) Try.func71 #[.pointer (some ⟨g, 0, none⟩), .string ⟨#[49]⟩] ?_; refine (takeCall H 0 rfl HT1.out.le HS.out 49).mono ?_; rintro e w2 ⟨r2, m2, rfl, H2, HT2⟩; clear H F0 F2; have H := H2; clear H2; replace HT2 := am_ HT2; have F0 := H.f3 0; have F2 := H.f3 2; refine ⟨_, rfl, ?_⟩) |
    ((with_reducible refine gate_dst (N := 14) rfl ?_); refine gL_ (some 14) Try.func71 #[.pointer (some ⟨g, 0, none⟩), .string ⟨#[46]⟩] ?_; refine (takeCall H 0 rfl HT2.out.le HS.out 46).mono ?_; rintro e w2 ⟨r3, m3, rfl, H2, HT3⟩; clear H F0 F2; have H := H2; clear H2; replace HT3 := am_ HT3; have F0 := H.f3 0; have F2 := H.f3 2; refine ⟨_, rfl, ?_⟩))
  · refine bodyPost_ret (results_cell_row rfl _ _ g2 29 _ (0, 0) _ rfl (H.blk 2 rfl) hu rfl (by kernel_rfl)) rfl ?_
    subst_vars
    exact ⟨tr .none, _, _, rfl, rfl, H.pre 2, rd_leaf HT1.out (fun _ => rfl)⟩
  · refine bodyPost_ret (results_cell_row rfl _ _ g2 29 _ (0, 0) _ rfl (H.blk 2 rfl) hu rfl (by kernel_rfl)) rfl ?_
    subst_vars
    obtain ⟨rfl, -⟩ := HT1.out.no
    exact ⟨tr .empty, _, _, rfl, rfl, H.pre 2, rd_leaf HT2.out (fun _ => rfl)⟩
  · refine bodyPost_ret (results_cell_row rfl _ _ g2 29 _ (0, 0) _ rfl (H.blk 2 rfl) hu rfl (by kernel_rfl)) rfl ?_
    subst_vars
    obtain ⟨rfl, -⟩ := HT1.out.no
    obtain ⟨rfl, -⟩ := HT2.out.no
    exact ⟨tr .any, _, _, rfl, rfl, H.pre 2, rd_leaf HT3.out (fun _ => rfl)⟩
  · subst_vars
    obtain ⟨rfl, z1⟩ := HT1.out.no
    obtain ⟨rfl, z2⟩ := HT2.out.no
    obtain ⟨rfl, z3⟩ := HT3.out.no
    have HZ := am_ (And.intro z1 (And.intro z2 z3))
    clear z1 z2 z3 HT1 HT2 HT3
    replace H := H.nn
    go_loopg [3] 3 (fun gg v3 w' => ∃ (i : Nat), v3 = .int .i64 (i : Int) ∧ Aside0 (i ≤ 3 ∧ 3 ≤ gg + i) ∧ Aside0 (b = false → ∀ j : Nat, j < i → ∀ t, (bytesOf s).drop m3 ≠ (97 + j : Int) :: t) ∧ Sl w0 w' [rbox g s m3 b, p, bx g2 zt 29])
    case atStart => exact ⟨0, rfl, ⟨by omega, by omega⟩, ⟨fun _ j hj => absurd hj (by omega)⟩, H⟩
    case round =>
      clear H F0 F2
      obtain ⟨i, rfl, HI, HJ, H⟩ := hrel
      by_cases hi : i < 3
      · obtain ⟨g1_, rfl⟩ : ∃ q, gk = q + 1 := ⟨gk - 1, by have := HI.out; omega⟩
        obtain ⟨c, hc, hc2⟩ : ∃ c : UInt8, (⟨#[97, 98, 99]⟩ : ByteArray).extract i (i + 1) = ⟨#[c]⟩ ∧ (c.toNat : Int) = 97 + i := by
          rcases (by omega : i = 0 ∨ i = 1 ∨ i = 2) with rfl | rfl | rfl
          · exact ⟨97, rfl, rfl⟩
          · exact ⟨98, rfl, rfl⟩
          · exact ⟨99, rfl, rfl⟩
        have p1 : ((0 : Int) ≤ (i : Int)) = True := eq_true (by omega)
        have p2 : ((i : Int) < 3) = True := eq_true (by omega)
        have p3 := up1 (i := i) (by omega)
        have p4 : ((i : Int) ≤ (i : Int) + 1) = True := eq_true (by omega)
        have p5 : ((i : Int) + 1 ≤ 3) = True := eq_true (by omega)
        have p6 : ((0 : Int) ≤ (i : Int) + 1) = True := eq_true (by omega)
        have p7 : (i + 1 ≤ 3) = True := eq_true (by omega)
        have p8 : (⟨#[97, 98, 99]⟩ : ByteArray).size = 3 := rfl
        have F0 := H.f3 0
        have F2 := H.f3 2
        go_wp2_with (first | ((with_reducible refine gate_dst (N := 25) rfl ?_); refine gL_ (some 25) Try.func71 #[.pointer (some ⟨g, 0, none⟩), .string ⟨#[c]⟩] ?_; refine (takeCall H 0 rfl HN.out HS.out c).mono ?_; rintro e w2 ⟨r4, m4, rfl, H2, HT4⟩; clear H F0 F2; have H := H2; clear H2; replace HT4 := am_ HT4; have F2 := H.f3 2; refine ⟨_, rfl, ?_⟩) | (refine p3_ H 2 2 rfl ?_; clear H F2; intro w1 H))
        · refine bodyPost_ret (results_cell_row rfl _ _ g2 29 _ (0, 0) _ rfl (H.blk 2 rfl) hu rfl (by kernel_rfl)) rfl ?_
          subst_vars
          refine ⟨tr (.letter (one1 (97 + (i : Int)))), _, _, ?_, rfl, H.pre 2, ?_⟩
          · show Ending.returned (.agg #[.int .i64 3, .string _, _]) = Ending.returned (.agg #[.int .i64 3, .string (one1 (97 + (i : Int))), _])
            have : one1 (97 + (i : Int)) = ⟨#[c]⟩ := by rw [← hc2]; simp [one1]
            rw [this]
          · have ht := HT4.out
            rw [hc2] at ht
            refine rd_leaf ht (fun t => ?_)
            rcases (by omega : i = 0 ∨ i = 1 ∨ i = 2) with rfl | rfl | rfl <;> rfl
        · go_roundg g1_
          case measure => omega
          case rel =>
            subst_vars
            have ht := HT4.out
            rw [hc2] at ht
            obtain ⟨rfl, z⟩ := ht.no
            exact ⟨i + 1, rfl, ⟨by omega, by have := HI.out; omega⟩, ⟨fun hb j hj t => by
              by_cases e : j = i
              · subst e; exact z hb t
              · exact HJ.out hb j (by omega) t⟩, H⟩
      · have e : i = 3 := by have := HI.out; omega
        subst e
        have F0 := H.f3 0
        have F2 := H.f3 2
        go_wp2_with (first | (refine p1_ H 33 0 2 rfl ?_; clear H F0 F2; intro w1 H; have F2 := H.f3 2) | (refine p3_ H 2 2 rfl ?_; clear H F2; intro w1 H))
        refine bodyPost_ret (results_cell_row rfl _ _ g2 29 _ (0, 0) _ rfl (H.blk 2 rfl) hu rfl (by kernel_rfl)) rfl ?_
        refine ⟨⟨0, ⟨#[]⟩, []⟩, _, _, rfl, rfl, H.pre 2, rd_none HN.out (fun hb t => ⟨HZ.out.1 hb t, HZ.out.2.1 hb t, HZ.out.2.2 hb t, fun j hj => HJ.out hb j hj t⟩)⟩
end Go.Proofs.Ytldgkgdgcfllmaa
end
section
namespace Go.Proofs.Ytldgkgdgcfllmaa
open Go.RowKit Go.Shelf Go.Proofs.Ytldgkgdgcfllmaa.P Go.Proofs.Ytldgkgdgcfllmaa.Pl Go.Proofs.Ytldgkgdgcfllmaa.Rg Go.Proofs.YtldgkgdgcfllmaaW.PrintWords Go.Proofs.YtldgkgdgcfllmaaW.PrintLast Go.Proofs.YtldgkgdgcfllmaaW.PrintMore
set_option linter.unusedVariables false
set_option linter.unusedSimpArgs false
section
variable {s : ByteArray} {n m k k1 k2 m4 m5 m8 d : Nat} {b b1 b2 r8 : Bool} {q q1 q2 : Tr}
theorem RdR.tail {x : Option (Rx × List Int)} {f : Rx → Rx} {q' : Tr} (hq : RdR x s k b q) (hf : ∀ y, q = tr y → q' = tr (f y)) : RdR (x.map fun x => (f x.1, x.2)) s k b q' := by
  refine ⟨hq.le, ?_⟩
  have h := hq.ok
  cases x with
  | none => exact h
  | some x => exact ⟨h.1, hf _ h.2.1, h.2.2⟩
theorem rd_star (h : TK s false n m 42 true) (hq : RdR (pN d ((bytesOf s).drop m)) s k b q) : RdR (pN (d + 1) ((bytesOf s).drop n)) s k b ⟨8, ⟨#[]⟩, [q]⟩ := by
  obtain ⟨-, hm, t, h1, h2⟩ := h.yes
  rw [h2] at hq
  have e : pN (d + 1) (42 :: t) = (pN d t).map fun x => (.star x.1, x.2) := by simp [pN]
  rw [h1, e]
  exact hq.tail (fun y e => by rw [e]; rfl)
theorem rd_not (h0 : TK s false n m4 42 false) (h : TK s false m4 m 33 true) (hq : RdR (pN d ((bytesOf s).drop m)) s k b q) : RdR (pN (d + 1) ((bytesOf s).drop n)) s k b ⟨9, ⟨#[]⟩, [q]⟩ := by
  obtain ⟨-, hm, t, h1, h2⟩ := h.yes
  rw [(h0.no).1] at h1
  rw [h2] at hq
  have e : pN (d + 1) (33 :: t) = (pN d t).map fun x => (.not x.1, x.2) := by simp [pN]
  rw [h1, e]
  exact hq.tail (fun y e => by rw [e]; rfl)
theorem rd_lf (h0 : TK s false n k1 42 false) (h1 : TK s false k1 k2 33 false) (h2 : TK s false k2 m 40 false) (hq : RdR (lf false ((bytesOf s).drop m)) s k b q) : RdR (pN (d + 1) ((bytesOf s).drop n)) s k b q := by
  obtain ⟨rfl, z0⟩ := h0.no
  obtain ⟨rfl, z1⟩ := h1.no
  obtain ⟨rfl, z2⟩ := h2.no
  have z0 := z0 rfl
  have z1 := z1 rfl
  have z2 := z2 rfl
  generalize (bytesOf s).drop m = l at *
  cases l with
  | nil => exact hq
  | cons c t =>
    have a0 : c ≠ 42 := fun e => z0 t (by rw [e])
    have a1 : c ≠ 33 := fun e => z1 t (by rw [e])
    have a2 : c ≠ 40 := fun e => z2 t (by rw [e])
    have e : pN (d + 1) (c :: t) = lf false (c :: t) := by simp [pN, lf, a0, a1, a2]
    rw [e]
    exact hq
theorem sg_or (h : TK s b1 k1 m4 124 true) : b1 = false → sgn ((bytesOf s).drop k1) = (6, (bytesOf s).drop m4) := fun _ => by
  obtain ⟨-, -, t, h1, h2⟩ := h.yes
  rw [h1, h2]
  rfl
theorem sg_and (h0 : TK s b1 k1 m4 124 false) (h : TK s b1 m4 m5 38 true) : b1 = false → sgn ((bytesOf s).drop k1) = (7, (bytesOf s).drop m5) := fun _ => by
  obtain ⟨-, -, t, h1, h2⟩ := h.yes
  rw [(h0.no).1] at h1
  rw [h1, h2]
  rfl
theorem sg_cat (h0 : TK s b1 k1 m4 124 false) (h : TK s b1 m4 m5 38 false) : b1 = false → sgn ((bytesOf s).drop k1) = (5, (bytesOf s).drop m5) := fun hb => by
  obtain ⟨rfl, z0⟩ := h0.no
  obtain ⟨rfl, z1⟩ := h.no
  have z0 := z0 hb
  have z1 := z1 hb
  generalize (bytesOf s).drop m5 = l at *
  cases l with
  | nil => rfl
  | cons c t =>
    have a0 : c ≠ 124 := fun e => z0 t (by rw [e])
    have a1 : c ≠ 38 := fun e => z1 t (by rw [e])
    simp [sgn, a0, a1]
theorem RdR.isNone {x : Option (Rx × List Int)} (h : RdR x s k true q) : x = none := by
  have := h.ok
  cases x with
  | none => rfl
  | some x => exact absurd this.1 (by decide)
theorem RdR.isSome {x : Option (Rx × List Int)} (h : RdR x s k false q) : ∃ y, x = some (y, (bytesOf s).drop k) ∧ q = tr y := by
  have := h.ok
  cases x with
  | none => exact Bool.noConfusion (show false = true from this)
  | some x => exact ⟨x.1, by rw [this.2.2], this.2.1⟩
theorem bin_eq (t : List Int) : pN (d + 1) (40 :: t) = (pN d t).bind fun x => (pN d (sgn x.2).2).bind fun y => match y.2 with
      | c :: r => if c = 41 then some (op2 (sgn x.2).1 x.1 y.1, r) else none
      | [] => none := by first | (simp [pN]; done) | (simp [pN]; rfl)
theorem rd_bad (hl : TK s false n k 42 false) (hl2 : TK s false k k2 33 false) (h : TK s false k2 m 40 true) (hq1 : RdR (pN d ((bytesOf s).drop m)) s k1 b1 q1) {kd : Int} (hs : b1 = false → sgn ((bytesOf s).drop k1) = (kd, (bytesOf s).drop m5))
    (hq2 : RdR (if b1 = true then none else pN d ((bytesOf s).drop m5)) s m8 true q2) : RdR (pN (d + 1) ((bytesOf s).drop n)) s m8 true q := by
  obtain ⟨-, -, t, h1, h2⟩ := h.yes
  rw [(hl2.no).1, (hl.no).1] at h1
  rw [h2] at hq1
  refine ⟨hq2.le, ?_⟩
  have e : pN (d + 1) (40 :: t) = none := by
    rw [bin_eq]
    cases b1 with
    | true => rw [hq1.isNone]; rfl
    | false =>
      obtain ⟨y, e1, -⟩ := hq1.isSome
      rw [e1]
      show (pN d (sgn ((bytesOf s).drop k1)).2).bind _ = none
      rw [hs rfl]
      have := hq2.isNone
      rw [if_neg (by decide)] at this
      show (pN d ((bytesOf s).drop m5)).bind _ = none
      rw [this]
      rfl
  rw [h1, e]
theorem rd_bin (hl : TK s false n k 42 false) (hl2 : TK s false k k2 33 false) (h : TK s false k2 m 40 true) (hq1 : RdR (pN d ((bytesOf s).drop m)) s k1 b1 q1) {kd : Int} (hkd : kd = 5 ∨ kd = 6 ∨ kd = 7) (hs : b1 = false → sgn ((bytesOf s).drop k1) = (kd, (bytesOf s).drop m5))
    (hq2 : RdR (if b1 = true then none else pN d ((bytesOf s).drop m5)) s m4 false q2) (hc : TK s false m4 m8 41 r8) : RdR (pN (d + 1) ((bytesOf s).drop n)) s m8 (!r8) ⟨kd, ⟨#[]⟩, [q1, q2]⟩ := by
  obtain ⟨-, -, t, h1, h2⟩ := h.yes
  rw [(hl2.no).1, (hl.no).1] at h1
  rw [h2] at hq1
  refine ⟨hc.le, ?_⟩
  cases b1 with
  | true => rw [if_pos rfl] at hq2; exact Bool.noConfusion (show false = true from hq2.ok)
  | false =>
    obtain ⟨x, e1, rfl⟩ := hq1.isSome
    rw [if_neg (by decide)] at hq2
    obtain ⟨y, e2, rfl⟩ := hq2.isSome
    have e : pN (d + 1) (40 :: t) = match (bytesOf s).drop m4 with
        | c :: r => if c = 41 then some (op2 kd x y, r) else none
        | [] => none := by
      rw [bin_eq, e1]
      show (pN d (sgn ((bytesOf s).drop k1)).2).bind _ = _
      rw [hs rfl]
      show (pN d ((bytesOf s).drop m5)).bind _ = _
      rw [e2]
      rfl
    rw [h1, e]
    cases r8 with
    | true =>
      obtain ⟨-, -, t', g1, g2⟩ := hc.yes
      rw [g1]
      refine ⟨rfl, ?_, g2⟩
      rcases hkd with rfl | rfl | rfl <;> rfl
    | false =>
      have z := (hc.no).2 rfl
      generalize (bytesOf s).drop m4 = l at z
      cases l with
      | nil => rfl
      | cons c r =>
        have : c ≠ 41 := fun e => z r (by rw [e])
        simp [this]
end
end Go.Proofs.Ytldgkgdgcfllmaa
end
