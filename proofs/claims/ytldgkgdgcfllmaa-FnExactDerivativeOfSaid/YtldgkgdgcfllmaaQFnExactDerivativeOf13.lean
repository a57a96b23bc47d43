/- Texts of the proof of FnExactDerivativeOf, put together. No condition. -/
import Derived.Test.YtldgkgdgcfllmaaQFnExactDerivativeOf2
import Derived.Test.YtldgkgdgcfllmaaQFnExactDerivativeOf10
import Derived.Test.YtldgkgdgcfllmaaQFnExactDerivativeOf12
import Derived.Test.YtldgkgdgcfllmaaQFnExactDerivativeOf4
import Derived.Test.YtldgkgdgcfllmaaQFnExactDerivativeOf5
import Derived.Test.YtldgkgdgcfllmaaQFnExactDerivativeOf3
import Derived.Test.YtldgkgdgcfllmaaQFnExactDerivativeOf11
import Derived.Test.YtldgkgdgcfllmaaQFnExactDerivativeOf6
section
namespace Go.Proofs.Ytldgkgdgcfllmaa
open Go.RowKit Go.Shelf Go.Proofs.Ytldgkgdgcfllmaa.P Go.Proofs.Ytldgkgdgcfllmaa.Pl Go.Proofs.Ytldgkgdgcfllmaa.Rg Go.Proofs.YtldgkgdgcfllmaaW.PrintWords Go.Proofs.YtldgkgdgcfllmaaW.PrintLast Go.Proofs.YtldgkgdgcfllmaaW.PrintMore
set_option linter.unusedVariables false
set_option linter.unusedSimpArgs false
theorem Tall.more : ∀ {n m : Nat} {t : Tr}, Tall n t → n ≤ m → Tall m t
  | 0, _, _, h, _ => h.elim
  | n + 1, 0, _, _, h => by omega
  | n + 1, m + 1, t, h, hm => ⟨h.1, fun a ha => Tall.more (h.2 a ha) (by omega)⟩
theorem tall_tr : ∀ y : Rx, Tall (sz y) (tr y)
  | .none => ⟨by simp [tr], fun a ha => by simp [tr] at ha⟩
  | .empty => ⟨by simp [tr], fun a ha => by simp [tr] at ha⟩
  | .letter l => ⟨by simp [tr], fun a ha => by simp [tr] at ha⟩
  | .any => ⟨by simp [tr], fun a ha => by simp [tr] at ha⟩
  | .cat x y => by
    rw [show sz (.cat x y) = (sz x + sz y) + 1 by simp only [sz]; omega]
    refine ⟨by simp [tr], fun a ha => ?_⟩
    simp only [tr, List.mem_cons, List.not_mem_nil, or_false] at ha
    rcases ha with rfl | rfl
    · exact (tall_tr x).more (by omega)
    · exact (tall_tr y).more (by omega)
  | .or x y => by
    rw [show sz (.or x y) = (sz x + sz y) + 1 by simp only [sz]; omega]
    refine ⟨by simp [tr], fun a ha => ?_⟩
    simp only [tr, List.mem_cons, List.not_mem_nil, or_false] at ha
    rcases ha with rfl | rfl
    · exact (tall_tr x).more (by omega)
    · exact (tall_tr y).more (by omega)
  | .and x y => by
    rw [show sz (.and x y) = (sz x + sz y) + 1 by simp only [sz]; omega]
    refine ⟨by simp [tr], fun a ha => ?_⟩
    simp only [tr, List.mem_cons, List.not_mem_nil, or_false] at ha
    rcases ha with rfl | rfl
    · exact (tall_tr x).more (by omega)
    · exact (tall_tr y).more (by omega)
  | .star x => by
    rw [show sz (.star x) = sz x + 1 by simp only [sz]; omega]
    exact ⟨by simp [tr], fun a ha => by simp only [tr, List.mem_cons, List.not_mem_nil, or_false] at ha; rw [ha]; exact tall_tr x⟩
  | .not x => by
    rw [show sz (.not x) = sz x + 1 by simp only [sz]; omega]
    exact ⟨by simp [tr], fun a ha => by simp only [tr, List.mem_cons, List.not_mem_nil, or_false] at ha; rw [ha]; exact tall_tr x⟩
def drT (l : ByteArray) (a : Tr) : Tr := tr (drv l ((toRx 200 a).getD .none))
theorem drT_tr (l : ByteArray) (y : Rx) (h : sz y < 200) : drT l (tr y) = tr (drv l y) := by unfold drT; rw [ax_toRx (ax_tr y) 200 h]; rfl
theorem deAll (l : ByteArray) : ∀ y : Rx, sz y ≤ 100 → CT 56 l (tr y) (tr (drv l y)) := by
  have many : ∀ (k : Int) (hk : k = 6 ∨ k = 7 ∨ k = 9) (ys : List Rx), ys.length ≤ 2 → (∀ y ∈ ys, sz y ≤ 100 ∧ CT 56 l (tr y) (tr (drv l y))) → CT 56 l ⟨k, ⟨#[]⟩, ys.map tr⟩ ⟨k, ⟨#[]⟩, ys.map fun y => tr (drv l y)⟩ := fun k hk ys hl h => by
    have := deMany l ⟨#[]⟩ k hk (ys.map tr) (drT l) (by rw [List.length_map]; omega) (fun a ha => by
      obtain ⟨y, hy, rfl⟩ := List.mem_map.1 ha
      rw [drT_tr l y (by have := (h y hy).1; omega)]
      exact (h y hy).2)
    rw [List.map_map] at this
    have e : ys.map (drT l ∘ tr) = ys.map fun y => tr (drv l y) := List.map_congr_left (fun y hy => drT_tr l y (by have := (h y hy).1; omega))
    rw [e] at this
    exact this
  intro y
  induction y with
  | none => intro _; exact deLeaf l _ 1 _ (.inl ⟨.inl rfl, rfl⟩)
  | empty => intro _; exact deLeaf l _ 2 _ (.inl ⟨.inr rfl, rfl⟩)
  | any => intro _; exact deLeaf l _ 4 _ (.inr (.inl ⟨rfl, rfl⟩))
  | letter c => intro _; exact deLeaf l c 3 _ (.inr (.inr ⟨rfl, by simp only [drv]; split <;> rfl⟩))
  | or x y a b => intro h; simp only [sz] at h; exact many 6 (.inl rfl) [x, y] (by simp) (by simp; exact ⟨⟨by omega, a (by omega)⟩, by omega, b (by omega)⟩)
  | and x y a b => intro h; simp only [sz] at h; exact many 7 (.inr (.inl rfl)) [x, y] (by simp) (by simp; exact ⟨⟨by omega, a (by omega)⟩, by omega, b (by omega)⟩)
  | not x a => intro h; simp only [sz] at h; exact many 9 (.inr (.inr rfl)) [x] (by simp) (by simp; exact ⟨by omega, a (by omega)⟩)
  | star x a => intro h; have ht := tall_tr (.star x); simp only [sz] at h; exact deStar _ l _ (tr x) (tr (drv l x)) ht (a (by omega))
  | cat x y a b =>
    intro h
    simp only [sz] at h
    have := deCat _ l ⟨#[]⟩ (tr x) (tr y) (tr (drv l x)) (tr (drv l y)) x (ax_tr x) (by omega) (tall_tr y) (a (by omega)) (b (by omega))
    simp only [drv]
    split at this
    · rename_i e; rw [if_pos e]; exact this
    · rename_i e; rw [if_neg e]; exact this
theorem dsAll (l : ByteArray) : ∀ y : Rx, sz y ≤ 100 → CT 55 l (tr y) (tr (drv l y)) := by
  have many : ∀ (k : Int) (hk : k = 6 ∨ k = 7 ∨ k = 9) (ys : List Rx), ys.length ≤ 2 → (∀ y ∈ ys, sz y ≤ 100 ∧ CT 55 l (tr y) (tr (drv l y))) → CT 55 l ⟨k, ⟨#[]⟩, ys.map tr⟩ ⟨k, ⟨#[]⟩, ys.map fun y => tr (drv l y)⟩ := fun k hk ys hl h => by
    have := dsMany l ⟨#[]⟩ k hk (ys.map tr) (drT l) (by rw [List.length_map]; omega) (fun a ha => by
      obtain ⟨y, hy, rfl⟩ := List.mem_map.1 ha
      rw [drT_tr l y (by have := (h y hy).1; omega)]
      exact (h y hy).2)
    rw [List.map_map] at this
    have e : ys.map (drT l ∘ tr) = ys.map fun y => tr (drv l y) := List.map_congr_left (fun y hy => drT_tr l y (by have := (h y hy).1; omega))
    rw [e] at this
    exact this
  intro y
  induction y with
  | none => intro _; exact dsLeaf l _ 1 _ (.inl ⟨.inl rfl, rfl⟩)
  | empty => intro _; exact dsLeaf l _ 2 _ (.inl ⟨.inr rfl, rfl⟩)
  | any => intro _; exact dsLeaf l _ 4 _ (.inr (.inl ⟨rfl, rfl⟩))
  | letter c => intro _; exact dsLeaf l c 3 _ (.inr (.inr ⟨rfl, by simp only [drv]; split <;> rfl⟩))
  | or x y a b => intro h; simp only [sz] at h; exact many 6 (.inl rfl) [x, y] (by simp) (by simp; exact ⟨⟨by omega, a (by omega)⟩, by omega, b (by omega)⟩)
  | and x y a b => intro h; simp only [sz] at h; exact many 7 (.inr (.inl rfl)) [x, y] (by simp) (by simp; exact ⟨⟨by omega, a (by omega)⟩, by omega, b (by omega)⟩)
  | not x a => intro h; simp only [sz] at h; exact many 9 (.inr (.inr rfl)) [x] (by simp) (by simp; exact ⟨by omega, a (by omega)⟩)
  | star x a => intro h; have ht := tall_tr (.star x); simp only [sz] at h; exact dsStar _ l _ (tr x) (tr (drv l x)) ht (a (by omega))
  | cat x y a b =>
    intro h
    simp only [sz] at h
    have := dsCat _ l ⟨#[]⟩ (tr x) (tr y) (tr (drv l x)) (tr (drv l y)) x (ax_tr x) (by omega) (tall_tr y) (a (by omega)) (b (by omega))
    simp only [drv]
    split at this
    · rename_i e; rw [if_pos e]; exact this
    · rename_i e; rw [if_neg e]; exact this
def dofT (s : ByteArray) (x : TI) : TI := if validR x = true ∧ s.size = 1 ∧ word s = true then drT s x else ⟨0, ⟨#[]⟩, []⟩
set_option maxHeartbeats 4000000 in
set_option maxRecDepth 100000 in
theorem doImpl (x : TI) (hx : Thin x) (hn : nd x ≤ 2000000) (s : ByteArray) (hs : s.size ≤ 140737488351232) : CT 30 s x (dofT s x) := by
  intro A c w hC hc
  obtain ⟨k1, hk1⟩ := (impl_validR x hx).rounds
  obtain ⟨k2, hk2⟩ := (impl_word s hs).rounds
  have HD : Aside0 (validR x = true → ∀ w', Below w.heap.size w w' → Calls Try.prog 56 #[tv x A c, .string s] w' (PT w' (drT s x))) := ⟨fun hv w' hb => by
    obtain ⟨y, rfl, hl, hz⟩ := validR_tr hv
    rw [drT_tr s y (by omega)]
    exact deAll s y (by omega) A c w' (Kd.C_below hC hb) hc⟩
  have H1 := am_ hk1
  have H2 := am_ hk2
  have HC := am_ hC
  have HL := am_ hc
  have H := Sl.start w
  have hu := Try.underlying29
  obtain ⟨q, hq⟩ : ∃ q, q = dofT s x := ⟨_, rfl⟩
  rw [← hq]
  unfold dofT at hq
  clear hC hc hk1 hk2 hx hn
  by_cases hv : validR x = true
  rotate_left
  · have hv2 : validR x = false := by simpa using hv
    rw [if_neg (fun h => hv h.1)] at hq
    subst hq
    rw [hv2] at H1
    clear hv hv2 HD
    go_enter Try.func30, Try.ntmps30
    go_wp2_with (first | (refine nw_ H 2 (tb x A c) 29 rfl ?_; clear H; intro g1 w1 H) | (refine nw_ H 4 zt 29 rfl ?_; clear H; intro g2 w1 H; have F0 := H.f3 0) |
      ((with_reducible refine gate_callee (f := 18) rfl ?_); refine gL_ (some 6) Try.func18 #[tv x A c] ?_; refine (impl_IsValidRegex.calls k1 x.f0 x.f1 A c x.f2 false _ (Kd.C_below HC.out H.bel) HL.out H1.out).mono ?_; rintro e w2 ⟨rfl, hb⟩; replace H := H.only hb; clear hb F0; have F0 := H.f3 0; have F1 := H.f3 1; refine ⟨_, rfl, ?_⟩) | (refine p3_ H 4 1 rfl ?_; clear H F0 F1; intro w1 H))
    refine bodyPost_ret (results_cell_row rfl _ _ g2 29 _ (0, 0) _ rfl (H.blk 1 rfl) hu rfl (by kernel_rfl)) rfl ?_
    exact ⟨_, rfl, (sub_nil H).one 2⟩
  rw [hv] at H1
  replace HD := am_ (HD.out hv)
  by_cases h1 : s.size = 1
  rotate_left
  · have e1 : decide ((s.size : Int) = 1) = false := decide_eq_false (by omega)
    have e2 : ((s.size : Int) = 1) = False := eq_false (by omega)
    have e3 : ((s.size : Int) == 1) = false := by simpa using e2
    have e4 : ((s.size : Int) != 1) = true := by simp only [bne, e3]; rfl
    rw [if_neg (fun h => h1 h.2.1)] at hq
    subst hq
    clear hv h1 HD
    go_enter Try.func30, Try.ntmps30
    go_wp2_with (first | (refine nw_ H 2 (tb x A c) 29 rfl ?_; clear H; intro g1 w1 H) | (refine nw_ H 4 zt 29 rfl ?_; clear H; intro g2 w1 H; have F0 := H.f3 0) |
      ((with_reducible refine gate_callee (f := 18) rfl ?_); refine gL_ (some 6) Try.func18 #[tv x A c] ?_; refine (impl_IsValidRegex.calls k1 x.f0 x.f1 A c x.f2 true _ (Kd.C_below HC.out H.bel) HL.out H1.out).mono ?_; rintro e w2 ⟨rfl, hb⟩; replace H := H.only hb; clear hb F0; have F0 := H.f3 0; have F1 := H.f3 1; refine ⟨_, rfl, ?_⟩) | (refine p3_ H 4 1 rfl ?_; clear H F0 F1; intro w1 H))
    refine bodyPost_ret (results_cell_row rfl _ _ g2 29 _ (0, 0) _ rfl (H.blk 1 rfl) hu rfl (by kernel_rfl)) rfl ?_
    exact ⟨_, rfl, (sub_nil H).one 2⟩
  have e1 : decide ((s.size : Int) = 1) = true := decide_eq_true (by omega)
  have e2 : ((s.size : Int) = 1) = True := eq_true (by omega)
  have e3 : ((s.size : Int) == 1) = true := by simpa using e2
  have e4 : ((s.size : Int) != 1) = false := by simp only [bne, e3]; rfl
  by_cases hw : word s = true
  · rw [if_pos ⟨hv, h1, hw⟩] at hq
    rw [← hq] at HD
    rw [hw] at H2
    clear hv h1 hw hq
    go_enter Try.func30, Try.ntmps30
    go_wp2_with (first | (refine nw_ H 2 (tb x A c) 29 rfl ?_; clear H; intro g1 w1 H) | (refine nw_ H 4 zt 29 rfl ?_; clear H; intro g2 w1 H; have F0 := H.f3 0) |
      ((with_reducible refine gate_callee (f := 18) rfl ?_); refine gL_ (some 6) Try.func18 #[tv x A c] ?_; refine (impl_IsValidRegex.calls k1 x.f0 x.f1 A c x.f2 true _ (Kd.C_below HC.out H.bel) HL.out H1.out).mono ?_; rintro e w2 ⟨rfl, hb⟩; replace H := H.only hb; clear hb F0; have F0 := H.f3 0; have F1 := H.f3 1; refine ⟨_, rfl, ?_⟩) |
      (go_at_call 53; (with_reducible refine (impl_IsWord.calls k2 s true _ H2.out).mono ?_); rintro e w2 ⟨rfl, hb⟩; replace H := H.only hb.below; clear hb F0 F1; have F0 := H.f3 0) |
      ((with_reducible refine gate_callee (f := 56) rfl ?_); refine gL_ (some 21) Try.func56 #[tv x A c, .string s] ?_; refine (HD.out _ H.bel).mono ?_; rintro e w2 ⟨v2, rfl, H3⟩; obtain ⟨A3, c3, rfl, -, -⟩ := H3.tv 0; replace H := H.call H3; clear H3 F0; have F1 := H.f3 1; refine ⟨_, rfl, ?_⟩) | (refine p3_ H 4 1 rfl ?_; clear H F1; intro w1 H))
    refine bodyPost_ret (results_cell_row rfl _ _ g2 29 _ (0, 0) _ rfl (H.blk 1 rfl) hu rfl (by kernel_rfl)) rfl ?_
    exact ⟨_, rfl, H.one 2⟩
  · have hw2 : word s = false := by simpa using hw
    rw [if_neg (fun h => hw h.2.2)] at hq
    subst hq
    rw [hw2] at H2
    clear hv h1 hw hw2 HD
    go_enter Try.func30, Try.ntmps30
    go_wp2_with (first | (refine nw_ H 2 (tb x A c) 29 rfl ?_; clear H; intro g1 w1 H) | (refine nw_ H 4 zt 29 rfl ?_; clear H; intro g2 w1 H; have F0 := H.f3 0) |
      ((with_reducible refine gate_callee (f := 18) rfl ?_); refine gL_ (some 6) Try.func18 #[tv x A c] ?_; refine (impl_IsValidRegex.calls k1 x.f0 x.f1 A c x.f2 true _ (Kd.C_below HC.out H.bel) HL.out H1.out).mono ?_; rintro e w2 ⟨rfl, hb⟩; replace H := H.only hb; clear hb F0; have F0 := H.f3 0; have F1 := H.f3 1; refine ⟨_, rfl, ?_⟩) |
      (go_at_call 53; (with_reducible refine (impl_IsWord.calls k2 s false _ H2.out).mono ?_); rintro e w2 ⟨rfl, hb⟩; replace H := H.only hb.below; clear hb F0 F1; have F1 := H.f3 1) | (refine p3_ H 4 1 rfl ?_; clear H F1; intro w1 H))
    refine bodyPost_ret (results_cell_row rfl _ _ g2 29 _ (0, 0) _ rfl (H.blk 1 rfl) hu rfl (by kernel_rfl)) rfl ?_
    exact ⟨_, rfl, (sub_nil H).one 2⟩
set_option maxHeartbeats 4000000 in
set_option maxRecDepth 100000 in
theorem doSpec (x : TI) (hx : Thin x) (hn : nd x ≤ 2000000) (s : ByteArray) (hs : s.size ≤ 140737488351232) : CT 29 s x (dofT s x) := by
  intro A c w hC hc
  obtain ⟨k1, hk1⟩ := (spec_validR x hx hn).rounds
  obtain ⟨k2, hk2⟩ := (spec_word s hs).rounds
  have HD : Aside0 (validR x = true → ∀ w', Below w.heap.size w w' → Calls Try.prog 55 #[tv x A c, .string s] w' (PT w' (drT s x))) := ⟨fun hv w' hb => by
    obtain ⟨y, rfl, hl, hz⟩ := validR_tr hv
    rw [drT_tr s y (by omega)]
    exact dsAll s y (by omega) A c w' (Kd.C_below hC hb) hc⟩
  have H1 := am_ hk1
  have H2 := am_ hk2
  have HC := am_ hC
  have HL := am_ hc
  have H := Sl.start w
  have hu := Try.underlying29
  obtain ⟨q, hq⟩ : ∃ q, q = dofT s x := ⟨_, rfl⟩
  rw [← hq]
  unfold dofT at hq
  clear hC hc hk1 hk2 hx hn
  by_cases hv : validR x = true
  rotate_left
  · have hv2 : validR x = false := by simpa using hv
    rw [if_neg (fun h => hv h.1)] at hq
    subst hq
    rw [hv2] at H1
    clear hv hv2 HD
    go_enter Try.func29, Try.ntmps29
    go_wp2_with (first | (refine nw_ H 2 (tb x A c) 29 rfl ?_; clear H; intro g1 w1 H) | (refine nw_ H 4 zt 29 rfl ?_; clear H; intro g2 w1 H; have F0 := H.f3 0) |
      ((with_reducible refine gate_callee (f := 17) rfl ?_); refine gL_ (some 6) Try.func17 #[tv x A c] ?_; refine (spec_IsValidRegex.calls k1 x.f0 x.f1 A c x.f2 false _ (Kd.C_below HC.out H.bel) HL.out H1.out).mono ?_; rintro e w2 ⟨rfl, hb⟩; replace H := H.only hb; clear hb F0; have F0 := H.f3 0; have F1 := H.f3 1; refine ⟨_, rfl, ?_⟩) | (refine p3_ H 4 1 rfl ?_; clear H F0 F1; intro w1 H))
    refine bodyPost_ret (results_cell_row rfl _ _ g2 29 _ (0, 0) _ rfl (H.blk 1 rfl) hu rfl (by kernel_rfl)) rfl ?_
    exact ⟨_, rfl, (sub_nil H).one 2⟩
  rw [hv] at H1
  replace HD := am_ (HD.out hv)
  by_cases h1 : s.size = 1
  rotate_left
  · have e1 : decide ((s.size : Int) = 1) = false := decide_eq_false (by omega)
    have e2 : ((s.size : Int) = 1) = False := eq_false (by omega)
    have e3 : ((s.size : Int) == 1) = false := by simpa using e2
    have e4 : ((s.size : Int) != 1) = true := by simp only [bne, e3]; rfl
    rw [if_neg (fun h => h1 h.2.1)] at hq
    subst hq
    clear hv h1 HD
    go_enter Try.func29, Try.ntmps29
    go_wp2_with (first | (refine nw_ H 2 (tb x A c) 29 rfl ?_; clear H; intro g1 w1 H) | (refine nw_ H 4 zt 29 rfl ?_; clear H; intro g2 w1 H; have F0 := H.f3 0) |
      ((with_reducible refine gate_callee (f := 17) rfl ?_); refine gL_ (some 6) Try.func17 #[tv x A c] ?_; refine (spec_IsValidRegex.calls k1 x.f0 x.f1 A c x.f2 true _ (Kd.C_below HC.out H.bel) HL.out H1.out).mono ?_; rintro e w2 ⟨rfl, hb⟩; replace H := H.only hb; clear hb F0; have F0 := H.f3 0; have F1 := H.f3 1; refine ⟨_, rfl, ?_⟩) | (refine p3_ H 4 1 rfl ?_; clear H F0 F1; intro w1 H))
    refine bodyPost_ret (results_cell_row rfl _ _ g2 29 _ (0, 0) _ rfl (H.blk 1 rfl) hu rfl (by kernel_rfl)) rfl ?_
    exact ⟨_, rfl, (sub_nil H).one 2⟩
  have e1 : decide ((s.size : Int) = 1) = true := decide_eq_true (by omega)
  have e2 : ((s.size : Int) = 1) = True := eq_true (by omega)
  have e3 : ((s.size : Int) == 1) = true := by simpa using e2
  have e4 : ((s.size : Int) != 1) = false := by simp only [bne, e3]; rfl
  by_cases hw : word s = true
  · rw [if_pos ⟨hv, h1, hw⟩] at hq
    rw [← hq] at HD
    rw [hw] at H2
    clear hv h1 hw hq
    go_enter Try.func29, Try.ntmps29
    go_wp2_with (first | (refine nw_ H 2 (tb x A c) 29 rfl ?_; clear H; intro g1 w1 H) | (refine nw_ H 4 zt 29 rfl ?_; clear H; intro g2 w1 H; have F0 := H.f3 0) |
      ((with_reducible refine gate_callee (f := 17) rfl ?_); refine gL_ (some 6) Try.func17 #[tv x A c] ?_; refine (spec_IsValidRegex.calls k1 x.f0 x.f1 A c x.f2 true _ (Kd.C_below HC.out H.bel) HL.out H1.out).mono ?_; rintro e w2 ⟨rfl, hb⟩; replace H := H.only hb; clear hb F0; have F0 := H.f3 0; have F1 := H.f3 1; refine ⟨_, rfl, ?_⟩) |
      (go_at_call 51; (with_reducible refine (spec_IsWord.calls k2 s true _ H2.out).mono ?_); rintro e w2 ⟨rfl, hb⟩; replace H := H.only hb.below; clear hb F0 F1; have F0 := H.f3 0) |
      ((with_reducible refine gate_callee (f := 55) rfl ?_); refine gL_ (some 21) Try.func55 #[tv x A c, .string s] ?_; refine (HD.out _ H.bel).mono ?_; rintro e w2 ⟨v2, rfl, H3⟩; obtain ⟨A3, c3, rfl, -, -⟩ := H3.tv 0; replace H := H.call H3; clear H3 F0; have F1 := H.f3 1; refine ⟨_, rfl, ?_⟩) | (refine p3_ H 4 1 rfl ?_; clear H F1; intro w1 H))
    refine bodyPost_ret (results_cell_row rfl _ _ g2 29 _ (0, 0) _ rfl (H.blk 1 rfl) hu rfl (by kernel_rfl)) rfl ?_
    exact ⟨_, rfl, H.one 2⟩
  · have hw2 : word s = false := by simpa using hw
    rw [if_neg (fun h => hw h.2.2)] at hq
    subst hq
    rw [hw2] at H2
    clear hv h1 hw hw2 HD
    go_enter Try.func29, Try.ntmps29
    go_wp2_with (first | (refine nw_ H 2 (tb x A c) 29 rfl ?_; clear H; intro g1 w1 H) | (refine nw_ H 4 zt 29 rfl ?_; clear H; intro g2 w1 H; have F0 := H.f3 0) |
      ((with_reducible refine gate_callee (f := 17) rfl ?_); refine gL_ (some 6) Try.func17 #[tv x A c] ?_; refine (spec_IsValidRegex.calls k1 x.f0 x.f1 A c x.f2 true _ (Kd.C_below HC.out H.bel) HL.out H1.out).mono ?_; rintro e w2 ⟨rfl, hb⟩; replace H := H.only hb; clear hb F0; have F0 := H.f3 0; have F1 := H.f3 1; refine ⟨_, rfl, ?_⟩) |
      (go_at_call 51; (with_reducible refine (spec_IsWord.calls k2 s false _ H2.out).mono ?_); rintro e w2 ⟨rfl, hb⟩; replace H := H.only hb.below; clear hb F0 F1; have F1 := H.f3 1) | (refine p3_ H 4 1 rfl ?_; clear H F1; intro w1 H))
    refine bodyPost_ret (results_cell_row rfl _ _ g2 29 _ (0, 0) _ rfl (H.blk 1 rfl) hu rfl (by kernel_rfl)) rfl ?_
    exact ⟨_, rfl, (sub_nil H).one 2⟩
end Go.Proofs.Ytldgkgdgcfllmaa
end
section
namespace Go.Proofs.Ytldgkgdgcfllmaa
open Go.RowKit Go.Shelf Go.Proofs.Ytldgkgdgcfllmaa.P Go.Proofs.Ytldgkgdgcfllmaa.Rg Go.Proofs.YtldgkgdgcfllmaaW.PrintWords Go.Proofs.YtldgkgdgcfllmaaW.PrintLast Go.Proofs.YtldgkgdgcfllmaaW.PrintMore
set_option linter.unusedVariables false
theorem take_set' {α : Type} (l : List α) (n i : Nat) (x : α) : (l.set i x).take n = (l.take n).set i x := by
  apply List.ext_getElem?
  intro j
  simp only [List.getElem?_take, List.getElem?_set]
  by_cases hj : j < n
  · by_cases e : i = j
    · subst e
      simp only [if_pos hj, if_true, List.length_take]
      by_cases hl : i < l.length
      · rw [if_pos hl, if_pos (by omega)]
      · rw [if_neg hl, if_neg (by omega)]
    · simp only [if_pos hj, if_neg e]
  · by_cases e : i = j
    · subst e
      simp only [if_neg hj, if_true, List.length_take]
      rw [if_neg (by omega)]
    · simp only [if_neg hj, if_neg e]
section
variable {w : World}
theorem OwnL.at_ : ∀ {cs : List Value} {ts : List Tr} {fp : List Nat} (_ : OwnL w cs ts fp) (i : Nat) (hi : i < ts.length), ∃ u fu fr, cs[i * 3]? = some (.int .i64 (ts[i]'hi).f0) ∧ cs[i * 3 + 1]? = some (.string (ts[i]'hi).f1) ∧ cs[i * 3 + 2]? = some u ∧ Own w u (ts[i]'hi).f2 fu ∧ fp.Perm (fu ++ fr) ∧
    ∀ (w' : World) (t' : Tr) (u' : Value) (fu' : List Nat), (∀ k ∈ fr, w'.heap[k]? = w.heap[k]?) → Own w' u' t'.f2 fu' → ∃ fp', OwnL w' (((cs.set (i * 3) (.int .i64 t'.f0)).set (i * 3 + 1) (.string t'.f1)).set (i * 3 + 2) u') (ts.set i t') fp' ∧ fp'.Perm (fu' ++ fr)
  | _, _, _, .nil, i, hi => absurd hi (by simp)
  | _, _, _, .cons (t := t) (v := v) (f1 := f1) (f2 := f2) h1 h2, 0, hi => ⟨v, f1, f2, rfl, rfl, rfl, h1, List.Perm.refl _, fun w' t' u' fu' hk hu => ⟨_, OwnL.cons hu (OwnL.mv h2 hk), List.Perm.refl _⟩⟩
  | _, _, _, .cons (t := t) (v := v) (f1 := f1) (cs := cs) (ts := ts) (f2 := f2) h1 h2, i + 1, hi => by
    obtain ⟨u, fu, fr, c0, c1, c2, h3, h4, h5⟩ := OwnL.at_ h2 i (by simpa using hi)
    rw [show (i + 1) * 3 = i * 3 + 1 + 1 + 1 by omega]
    refine ⟨u, fu, f1 ++ fr, c0, c1, c2, h3, ?_, fun w' t' u' fu' hk hu => ?_⟩
    · exact (List.Perm.append_left f1 h4).trans (by rw [← List.append_assoc, ← List.append_assoc]; exact List.Perm.append_right fr List.perm_append_comm)
    · obtain ⟨gp, h6, h7⟩ := h5 w' t' u' fu' (fun k hk' => hk k (List.mem_append_right _ hk')) hu
      refine ⟨f1 ++ gp, OwnL.cons (Own.mv h1 (fun k hk' => hk k (List.mem_append_left _ hk'))) h6, ?_⟩
      exact (List.Perm.append_left f1 h7).trans (by rw [← List.append_assoc, ← List.append_assoc]; exact List.Perm.append_right fr List.perm_append_comm)
theorem Own.at_ {v : Value} {ts : List Tr} {fp : List Nat} (h : Own w v ts fp) (i : Nat) (hi : i < ts.length) : ∃ g c arr u fu fr, v = .slice (some ⟨g, 0, none⟩) ts.length c ∧ w.heap[g]? = some (.cells arr 29 (0, 0)) ∧ (arr[i * 3]? = some (.int .i64 (ts[i]'hi).f0) ∧ arr[i * 3 + 1]? = some (.string (ts[i]'hi).f1) ∧ arr[i * 3 + 2]? = some u) ∧ Own w u (ts[i]'hi).f2 fu ∧ fp.Perm (g :: (fu ++ fr)) ∧
    ∀ (w' : World) (t' : Tr) (u' : Value) (fu' : List Nat), w'.heap[g]? = some (.cells (((arr.setIfInBounds (i * 3) (.int .i64 t'.f0)).setIfInBounds (i * 3 + 1) (.string t'.f1)).setIfInBounds (i * 3 + 2) u') 29 (0, 0)) → (∀ k ∈ fr, w'.heap[k]? = w.heap[k]?) → Own w' u' t'.f2 fu' → ∃ fp', Own w' v (ts.set i t') fp' ∧ fp'.Perm (g :: (fu' ++ fr)) := by
  cases h with
  | @mk _ _ fs cs hL ho =>
    obtain ⟨u, fu, fr, c0, c1, c2, h3, h4, h5⟩ := OwnL.at_ hL i hi
    obtain ⟨hlen, ho2⟩ := ho
    rcases ho2 with ⟨_, e⟩ | ⟨g, cap, cur, rfl, hb, hg, hn, hm, hs, ht⟩
    · omega
    have get : ∀ j u, cs[i * 3 + j]? = some u → j < 3 → cur[i * 3 + j]? = some u := fun j u hu hj => by
      rw [← ht, List.getElem?_take] at hu
      rw [if_pos (by omega)] at hu
      simpa using hu
    refine ⟨g, cap, cur, u, fu, fr, rfl, hg, ⟨get 0 _ c0 (by omega), get 1 _ c1 (by omega), get 2 _ c2 (by omega)⟩, h3, ?_, fun w' t' u' fu' hg' hk hu => ?_⟩
    · show (g :: fs).Perm _
      exact List.Perm.cons g h4
    · obtain ⟨gp, h6, h7⟩ := h5 w' t' u' fu' hk hu
      have hl : (ts.set i t').length = ts.length := List.length_set
      refine ⟨g :: gp, ?_, List.Perm.cons g h7⟩
      have hO : Own w' (.slice (some ⟨g, 0, none⟩) ts.length cap) (ts.set i t') _ := Own.mk h6 (by
        rw [hl]
        refine ⟨by simp only [List.length_set]; exact hlen, .inr ⟨g, cap, _, rfl, hb, hg', hn, hm, by simp only [Array.size_setIfInBounds]; exact hs, ?_⟩⟩
        simp only [Array.toList_setIfInBounds, take_set', ht])
      exact hO
end
structure Same (w w' : World) (fp : List Nat) : Prop where
  os : w'.os = w.os
  tape : w'.tape = w.tape
  output : w'.output = w.output
  size : w.heap.size ≤ w'.heap.size
  block : ∀ k, k < w.heap.size → k ∉ fp → w'.heap[k]? = w.heap[k]?
section
variable {w0 w w' w2 : World} {fp : List Nat} {ps : List Pc} {i : Nat} {p q : Pc}
theorem Same.refl (w : World) (fp : List Nat) : Same w w fp := ⟨rfl, rfl, rfl, Nat.le_refl _, fun _ _ _ => rfl⟩
theorem Same.trans (h : Same w w' fp) (k : Same w' w2 fp) : Same w w2 fp := ⟨k.os.trans h.os, k.tape.trans h.tape, k.output.trans h.output, Nat.le_trans h.size k.size, fun i hi hf => (k.block i (Nat.lt_of_lt_of_le hi h.size) hf).trans (h.block i hi hf)⟩
theorem Same.of (h : Below w.heap.size w w') : Same w w' fp := ⟨h.os, h.tape, h.output, h.size, fun k hk _ => h.block k hk⟩
theorem Same.more {f2 : List Nat} (h : Same w w' fp) (hs : ∀ k ∈ fp, k ∈ f2) : Same w w' f2 := ⟨h.os, h.tape, h.output, h.size, fun k hk hf => h.block k hk (fun e => hf (hs k e))⟩
theorem Same.set (g j : Nat) (u : Value) (hg : g ∈ fp) : Same w (w.setCell ⟨g, j, none⟩ u) fp :=
  ⟨rfl, rfl, rfl, by simp [World.setCell], fun k _ hk => Below.heap_setCell w ⟨g, j, none⟩ u k (fun e => hk (by rw [e]; exact hg))⟩
theorem Same.below (h : Same w w' fp) (HB : Below w0.heap.size w0 w) (hf : ∀ k ∈ fp, w0.heap.size ≤ k) : Below w0.heap.size w0 w' :=
  ⟨h.os.trans HB.os, h.tape.trans HB.tape, h.output.trans HB.output, Nat.le_trans HB.size h.size, fun k hk => (h.block k (Nat.lt_of_lt_of_le hk HB.size) (fun e => absurd (hf k e) (by omega))).trans (HB.block k hk)⟩
theorem set_same {arr : Array Value} {j : Nat} {u : Value} (h : arr[j]? = some u) : arr.setIfInBounds j u = arr := by
  apply Array.ext_getElem?
  intro k
  rw [Array.getElem?_setIfInBounds]
  by_cases e : j = k
  · subst e
    rw [if_pos rfl, if_pos (Array.getElem?_eq_some_iff.1 h).1, h]
  · rw [if_neg e]
end
section
variable {P : Program} {ops : Array Oper} {rest : List Oper} {o : Oper} {a : Act} {Q : Exit → Act → World → Prop} {W : World}
theorem sv_ (p : Tmp) (ad : Addr) (x : Value) {t' : TypeId} {q : Operand} (ho : o.op = .store t' (.tmp p) q) (h : ∀ w1, w1 = W.setCell ad x → wpList P ops Q rest a w1)
    (hrun : (execOp a.eval o).run P W = .ok .skip (W.setCell ad x) := by first | (go_simp; done) | (go_simp; rfl)) (hgd : o.guard = none := by rfl) (hN : o.dst = none := by rfl) : wpList P ops Q (o :: rest) a W :=
  store_event hgd ho hN hrun h
end
theorem OwnL.zeros {w : World} : ∀ (n : Nat) (cs : List Value), Reps (fun (_ : Tr) c => c = [.int .i64 0, .string ⟨#[]⟩, .slice none 0 0]) 3 (List.replicate n z29) cs → OwnL w cs (List.replicate n z29) []
  | 0, cs, h => by
    have := h.1
    rw [List.eq_nil_of_length_eq_zero (l := cs) (by simpa using this)]
    exact .nil
  | n + 1, cs, h => by
    have h0 := h.2 0 z29 (by simp [List.replicate_succ])
    have hl := h.1
    simp only [List.length_replicate] at hl
    have hr : Reps (fun (_ : Tr) c => c = [.int .i64 0, .string ⟨#[]⟩, .slice none 0 0]) 3 (List.replicate n z29) (cs.drop 3) := ⟨by simp only [List.length_drop, List.length_replicate]; omega, fun j p hp => by
      have := h.2 (j + 1) p (by rw [List.replicate_succ]; simpa using hp)
      rw [List.drop_drop]
      rwa [show 3 + j * 3 = (j + 1) * 3 by omega]⟩
    have hc : cs = [.int .i64 0, .string ⟨#[]⟩, .slice none 0 0] ++ cs.drop 3 := by
      conv => lhs; rw [← List.take_append_drop 3 cs]
      congr 1
    rw [hc, List.replicate_succ]
    have hnil : Own w (.slice none 0 0) [] [] := Own.mk OwnL.nil ⟨rfl, .inl ⟨rfl, rfl⟩⟩
    exact OwnL.cons (t := z29) hnil (OwnL.zeros n (cs.drop 3) hr)
section
variable {ops : Array Oper} {rest : List Oper} {o : Oper} {a : Act} {Q : Exit → Act → World → Prop} {w0 W : World} {ps : List Pc}
theorem mk_ (H : Sl w0 W ps) (N : Tmp) (n : Nat) {x y : Operand} (hd : o.dst = some N) (ho : o.op = .makeSlice 27 x y) (hl : n ≤ 1000000000000)
    (h : ∀ g w1, Sl w0 w1 (ps ++ [tre (.slice (some ⟨g, 0, none⟩) n n) (List.replicate n z29)]) → wpList Try.prog ops Q rest (a.put o.dst (.slice (some ⟨g, 0, none⟩) n n)) w1)
    (hx : a.eval x = .int .i64 n := by rfl) (hy : a.eval y = .int .i64 n := by rfl) (hgd : o.guard = none := by rfl) : wpList Try.prog ops Q (o :: rest) a W := by
  obtain ⟨i0, hi, hzz⟩ := Option.map_eq_some_iff.1 info29
  simp only [Prod.mk.injEq] at hzz
  obtain ⟨hz0, hz1, hz2⟩ := hzz
  have hr := run_make (P := Try.prog) W 27 29 i0 _ und_tre hi hz0 .i64 .i64 (n : Int) (n : Int) (by omega) (by omega) (by rw [hz2]; omega) (by omega)
  simp only [Int.toNat_natCast] at hr
  rw [hz1] at hr
  have hrun : (execOp a.eval o).run Try.prog W = .ok (.value (.slice (some ⟨W.heap.size, 0, none⟩) n n)) (W.alloc (.cells (madeCells (Value.agg #[(.int .i64 0), (.string ⟨#[]⟩), (.slice none 0 0)]).cells (n * 3)) 29)) := by simp [execOp, ho, hx, hy, hr]
  refine Kd.event_run hgd hrun (h W.heap.size _ ?_)
  refine H.call ⟨below_alloc (Below.refl _ _) _, _, ⟨_, [], rfl, Own.mk (OwnL.zeros n _ (Kd.reps_made (R := fun (_ : Tr) c => c = [.int .i64 0, .string ⟨#[]⟩, .slice none 0 0]) (z0 := z29) (z := .agg #[(.int .i64 0), (.string ⟨#[]⟩), (.slice none 0 0)]) (size := 3) rfl (by decide) rfl n)) ?_, rfl⟩, by simp [Value.ownBlock], by simp [Value.ownBlock]⟩
  have h2 := World.ownsRow_lit (base := 0) (e := 29) (size := 3) W (madeCells (Value.agg #[(.int .i64 0), (.string ⟨#[]⟩), (.slice none 0 0)]).cells (n * 3)) n (Nat.zero_le _) (by simp [maxLen]; omega) (by simp [size_madeCells])
  rw [List.length_replicate]
  simpa using h2
theorem Sl.e3 {ts : List Tr} {g n c : Nat} (H : Sl w0 W ps) (i k : Nat) (hk : k < ts.length) (hi : ps[i]? = some (tre (.slice (some ⟨g, 0, none⟩) n c) ts) := by rfl) : ∃ x y z : Value, (W.cell? ⟨g, k * 3, none⟩ = some x ∧ W.frozen? ⟨g, k * 3, none⟩ = false) ∧ (W.cell? ⟨g, k * 3 + 1, none⟩ = some y ∧ W.frozen? ⟨g, k * 3 + 1, none⟩ = false) ∧ W.cell? ⟨g, k * 3 + 2, none⟩ = some z ∧ W.frozen? ⟨g, k * 3 + 2, none⟩ = false := by
  obtain ⟨f, hO, _⟩ := H.get i hi
  obtain ⟨g', c', arr, u, fu, fr, e, hg, ⟨h0, h1, h2⟩, _⟩ := Own.at_ hO k hk
  injection e with e1 _ _
  injection e1 with e1
  injection e1 with e1 _ _
  subst e1
  exact ⟨_, _, _, ⟨(blk_cell hg _).trans h0, blk_frozen hg _⟩, ⟨(blk_cell hg _).trans h1, blk_frozen hg _⟩, (blk_cell hg _).trans h2, blk_frozen hg _⟩
theorem se_ {ts : List Tr} {g n c : Nat} {t : Tr} {u : Value} (H : Sl w0 W ps) (p : Tmp) (i j k : Nat) {q : Operand} {t' : TypeId} (ho : o.op = .store t' (.tmp p) q) (hk : k < ts.length)
    (h : ∀ w1, Sl w0 w1 ((ps.set i (tre (.slice (some ⟨g, 0, none⟩) n c) (ts.set k t))).set j emp) → wpList Try.prog ops Q rest a w1)
    (hi : ps[i]? = some (tre (.slice (some ⟨g, 0, none⟩) n c) ts) := by rfl) (hj : ps[j]? = some (tre u t.f2) := by rfl) (hne : i ≠ j := by decide)
    (hrun : (execOp a.eval o).run Try.prog W = .ok .skip (((W.setCell ⟨g, k * 3, none⟩ (.int .i64 t.f0)).setCell ⟨g, k * 3 + 1, none⟩ (.string t.f1)).setCell ⟨g, k * 3 + 2, none⟩ u) := by first | (go_simp; done) | (go_simp; rfl))
    (hgd : o.guard = none := by rfl) (hN : o.dst = none := by rfl) : wpList Try.prog ops Q (o :: rest) a W := by
  refine store_event hgd ho hN hrun (fun w1 e1 => h w1 ?_)
  have HJ := H.join i j hi hj hne
  have hp : ((ps.set i (both (tre (.slice (some ⟨g, 0, none⟩) n c) ts) (tre u t.f2))).set j emp)[i]? = some (both (tre (.slice (some ⟨g, 0, none⟩) n c) ts) (tre u t.f2)) := by rw [List.getElem?_set_ne (Ne.symm hne), List.getElem?_set_self (List.getElem?_eq_some_iff.1 hi).1]
  obtain ⟨f, ⟨f1, f2, e, h1, h2⟩, hn, hgs, hc⟩ := HJ.opn i hp
  obtain ⟨g', c', arr, u', fu, fr, e', hg, _, _, hpm, hcl⟩ := Own.at_ h1 k hk
  injection e' with e2 _ _
  injection e2 with e2
  injection e2 with e2 _ _
  subst e2
  have hg1 : w1.heap[g]? = some (.cells (((arr.setIfInBounds (k * 3) (.int .i64 t.f0)).setIfInBounds (k * 3 + 1) (.string t.f1)).setIfInBounds (k * 3 + 2) u) 29 (0, 0)) := by
    rw [e1]
    exact blk_set (blk_set (blk_set hg _ _) _ _) _ _
  have hf1 : ∀ x ∈ g :: (fu ++ fr), x ∈ f := fun x hx => by rw [e]; exact List.mem_append_left _ (hpm.mem_iff.2 hx)
  rw [e] at hn
  obtain ⟨n1, n2, n3⟩ := List.nodup_append.1 hn
  have hn1 := (List.Perm.nodup_iff hpm).1 n1
  obtain ⟨n4, n5⟩ := List.nodup_cons.1 hn1
  have hsame : ∀ x, x ≠ g → w1.heap[x]? = W.heap[x]? := fun x hx => by
    rw [e1, Below.heap_setCell _ _ _ _ (fun e => hx e), Below.heap_setCell _ _ _ _ (fun e => hx e), Below.heap_setCell _ _ _ _ (fun e => hx e)]
  obtain ⟨fp', hO, hp'⟩ := hcl w1 t u f2 hg1 (fun x hx => hsame x (fun e => n4 (by rw [← e]; exact List.mem_append_right _ hx))) (Own.mv h2 (fun x hx => hsame x (fun e => n3 g (hpm.mem_iff.2 List.mem_cons_self) x hx e.symm)))
  have hset : ((ps.set i (both (tre (.slice (some ⟨g, 0, none⟩) n c) ts) (tre u t.f2))).set j emp).set i (tre (.slice (some ⟨g, 0, none⟩) n c) (ts.set k t)) = (ps.set i (tre (.slice (some ⟨g, 0, none⟩) n c) (ts.set k t))).set j emp := by rw [List.set_comm _ _ (Ne.symm hne), List.set_set]
  rw [← hset]
  have hgf : g ∈ f := hf1 g List.mem_cons_self
  refine hc w1 (tre (.slice (some ⟨g, 0, none⟩) n c) (ts.set k t)) fp' ?_ hO ((List.Perm.nodup_iff hp').2 (List.nodup_cons.2 ⟨fun hx => ?_, List.nodup_append.2 ⟨n2, (List.nodup_append.1 n5).2.1, fun x hx y hy exy => ?_⟩⟩)) (fun x hx => Or.inl ?_) (fun x hx hxf => hsame x (fun e => hxf (e ▸ hgf)))
  · rw [e1]
    exact below_set (below_set (below_set HJ.bel (hgs g hgf)) (hgs g hgf)) (hgs g hgf)
  · rcases List.mem_append.1 hx with hx | hx
    · exact n3 g (hpm.mem_iff.2 List.mem_cons_self) g hx rfl
    · exact n4 (List.mem_append_right _ hx)
  · subst exy
    exact n3 x (hpm.mem_iff.2 (List.mem_cons_of_mem _ (List.mem_append_right _ hy))) x hx rfl
  · rcases List.mem_cons.1 (hp'.mem_iff.1 hx) with hx | hx
    · rw [hx]; exact hgf
    · rcases List.mem_append.1 hx with hx | hx
      · rw [e]; exact List.mem_append_right _ hx
      · exact hf1 x (List.mem_cons_of_mem _ (List.mem_append_right _ hx))
end
end Go.Proofs.Ytldgkgdgcfllmaa
end
section
namespace Go.Proofs.Ytldgkgdgcfllmaa.Pl
open Go.RowKit Go.Proofs.Ytldgkgdgcfllmaa.P Go.Proofs.YtldgkgdgcfllmaaW.PrintWords Go.Proofs.YtldgkgdgcfllmaaW.PrintLast Go.Proofs.YtldgkgdgcfllmaaW.PrintMore
set_option linter.unusedVariables false
set_option linter.unusedSimpArgs false
theorem mark_l0 : ∀ (d : Nat) (n : Int) (x : ByteArray), n.toNat ≤ d → n ≤ 4611686018427387904 → n.toNat + x.size ≤ 9223372036854770000 → ∃ r, Ev (fun k => laws_markText.l0 k n x) r := by
  intro d
  induction d with
  | zero =>
    intro n x h h2 h3
    refine ⟨(⟨#[109]⟩ : ByteArray) ++ x, next ?_⟩
    simp only [laws_markText.l0, if_neg (show ¬ n > 0 by omega), if_pos (show 1 + x.size ≤ 9223372036854775807 by omega)]
    exact Ev.now _
  | succ d ih =>
    intro n x h h2 h3
    by_cases hp : n > 0
    · have hw : wrap64 (Int.tdiv n 10) = n / 10 := by
        rw [Int.tdiv_eq_ediv_of_nonneg (by omega), w64 (by omega) (by omega)]
      obtain ⟨r, hr⟩ := ih (n / 10) (strOfNums [(wrap64 (48 + (Int.tmod n 10))) % 256] ++ x) (by omega) (by omega) (by rw [ByteArray.size_append, size_strOf]; simp; omega)
      refine ⟨r, next ?_⟩
      simp only [laws_markText.l0, if_pos hp, Option.bind_some, size_strOf, List.length_cons, List.length_nil, if_pos (show 0 + 1 + x.size ≤ 9223372036854775807 by omega), hw]
      exact hr
    · refine ⟨(⟨#[109]⟩ : ByteArray) ++ x, next ?_⟩
      simp only [laws_markText.l0, if_neg hp, if_pos (show 1 + x.size ≤ 9223372036854775807 by omega)]
      exact Ev.now _
theorem mark_some (n : Int) (hn : n ≤ 4611686018427387904) : ∃ r, Ev (fun k => laws_markText.f k n) r := by
  simp only [laws_markText.f]
  by_cases h : n ≤ 0
  · simp only [if_pos h]
    exact ⟨_, Ev.now _⟩
  · simp only [if_neg h]
    exact mark_l0 n.toNat n _ (by omega) hn (by simp [ByteArray.size]; omega)
noncomputable def markOf (n : Int) : ByteArray := open Classical in if h : n ≤ 4611686018427387904 then (mark_some n h).choose else ByteArray.empty
theorem mark_ok (n : Int) (h : n ≤ 4611686018427387904) : Ev (fun k => laws_markText.f k n) (markOf n) := by
  simp only [markOf, h, dif_pos]
  exact (mark_some n h).choose_spec
theorem markCalls (n : Int) (h : n ≤ 4611686018427387904) (w : World) : Calls Try.prog 74 #[.int .i64 n] w fun e w' => e = .returned (.string (markOf n)) ∧ Below w.heap.size w w' := by
  obtain ⟨k, hk⟩ := (mark_ok n h).rounds
  exact laws_markText.calls k n _ w hk
end Go.Proofs.Ytldgkgdgcfllmaa.Pl
end
section
namespace Go.Proofs.Ytldgkgdgcfllmaa
open Go.RowKit Go.Shelf Go.Proofs.Ytldgkgdgcfllmaa.P Go.Proofs.Ytldgkgdgcfllmaa.Pl Go.Proofs.Ytldgkgdgcfllmaa.Rg Go.Proofs.YtldgkgdgcfllmaaW.PrintWords Go.Proofs.YtldgkgdgcfllmaaW.PrintLast Go.Proofs.YtldgkgdgcfllmaaW.PrintMore
set_option linter.unusedVariables false
set_option linter.unusedSimpArgs false
mutual
def cnt : Tr → Nat
  | ⟨_, _, cs⟩ => 1 + cnts cs
def cnts : List Tr → Nat
  | [] => 0
  | t :: ts => cnt t + cnts ts
end
mutual
noncomputable def mkT : Tr → Int → Tr
  | ⟨_, _, cs⟩, k => ⟨k, markOf (k + 1), mkL cs (k + 2)⟩
noncomputable def mkL : List Tr → Int → List Tr
  | [], _ => []
  | t :: ts, k => mkT t k :: mkL ts (k + 2 * cnt t)
end
theorem mkT_eq (t : Tr) (k : Int) : mkT t k = ⟨k, markOf (k + 1), mkL t.f2 (k + 2)⟩ := by cases t; rw [mkT]
theorem cnt_eq (t : Tr) : cnt t = 1 + cnts t.f2 := by cases t; rw [cnt]
theorem cnts_snoc : ∀ (l : List Tr) (t : Tr), cnts (l ++ [t]) = cnts l + cnt t
  | [], t => by simp [cnts]
  | x :: l, t => by simp only [List.cons_append, cnts]; rw [cnts_snoc l t]; omega
theorem mkL_snoc : ∀ (l : List Tr) (t : Tr) (k : Int), mkL (l ++ [t]) k = mkL l k ++ [mkT t (k + 2 * cnts l)]
  | [], t, k => by simp [mkL, cnts]
  | x :: l, t, k => by
    simp only [List.cons_append, mkL, cnts]
    rw [mkL_snoc l t, show k + 2 * (cnt x : Int) + 2 * (cnts l : Int) = k + 2 * ((cnt x + cnts l : Nat) : Int) by omega]
theorem mkL_len : ∀ (l : List Tr) (k : Int), (mkL l k).length = l.length
  | [], k => by simp [mkL]
  | x :: l, k => by simp only [mkL, List.length_cons]; rw [mkL_len l]
theorem cnts_take : ∀ (l : List Tr) (i : Nat) (hi : i < l.length), cnts (l.take i) + cnt (l[i]'hi) ≤ cnts l
  | x :: l, 0, _ => by simp [cnts]
  | x :: l, i + 1, hi => by simp only [List.take_succ_cons, cnts, List.getElem_cons_succ]; have := cnts_take l i (by simpa using hi); omega
theorem cnt_pos (t : Tr) : 1 ≤ cnt t := by rw [cnt_eq]; omega
theorem len_cnts : ∀ l : List Tr, l.length ≤ cnts l
  | [] => Nat.le_refl _
  | t :: l => by simp only [cnts, List.length_cons]; have := len_cnts l; have := cnt_pos t; omega
def MarkAt (m : Nat) : Prop := ∀ (ts : List Tr) (k : Int) (v : Value) (w : World) (fp : List Nat), cnts ts ≤ m → 0 ≤ k → k + 2 * cnts ts ≤ 1000000000 → Own w v ts fp → fp.Nodup →
  Calls Try.prog 49 #[v, .int .i64 k] w fun e w' => e = .returned (.int .i64 (k + 2 * cnts ts)) ∧ (∃ fq, Own w' v (mkL ts k) fq ∧ fq.Perm fp) ∧ Same w w' fp
set_option maxHeartbeats 4000000 in
set_option maxRecDepth 100000 in
theorem markAt : ∀ m, MarkAt m := by
  intro m
  induction m using Nat.strongRecOn with
  | _ m ih =>
  intro ts k v w fp hm h0 hk hO hn
  obtain ⟨A, c, rfl, -, -⟩ := Own.reads hO
  have HM := am_ hm
  have HK := am_ (And.intro h0 hk)
  have HN := am_ hn
  have HO := am_ hO
  have HIH := am_ ih
  clear hm h0 hk hO hn ih
  go_enter Try.func49, Try.ntmps49
  go_wp2
  go_loopg [1, 5] ts.length (fun gg v1 v5 wr => ∃ (i : Nat), v5 = .int .i64 (i : Int) ∧ v1 = .int .i64 (k + 2 * cnts (ts.take i)) ∧ Aside0 (i ≤ ts.length ∧ ts.length ≤ gg + i) ∧ Aside0 (∃ fq, Own wr (.slice A ts.length c) (mkL (ts.take i) k ++ ts.drop i) fq ∧ fq.Perm fp) ∧ Aside0 (Same w wr fp))
  case atStart => exact ⟨0, rfl, by simp [cnts], ⟨Nat.zero_le _, by omega⟩, ⟨fp, by simpa [mkL] using HO.out, List.Perm.refl _⟩, ⟨Same.refl _ _⟩⟩
  case round =>
    clear HO
    obtain ⟨i, rfl, rfl, HI, HO, HS⟩ := hrel
    by_cases hi : i < ts.length
    · obtain ⟨g1_, rfl⟩ : ∃ q, gk = q + 1 := ⟨gk - 1, by have := HI.out; omega⟩
      obtain ⟨fq, hO, hP⟩ := HO.out
      obtain ⟨y, hy⟩ : ∃ y, y = ts[i] := ⟨_, rfl⟩
      have hdr : ts.drop i = y :: ts.drop (i + 1) := by rw [hy]; exact List.drop_eq_getElem_cons hi
      have htk : ts.take (i + 1) = ts.take i ++ [y] := by rw [hy]; exact List.take_succ_eq_append_getElem hi
      have hct : cnts (ts.take i) + cnt y ≤ cnts ts := by rw [hy]; exact cnts_take ts i hi
      rw [hdr] at hO
      have hll : (mkL (ts.take i) k).length = i := by rw [mkL_len, List.length_take]; omega
      obtain ⟨g, c', arr, u, fu, fr, e, hg, ⟨ha0, ha1, ha2⟩, hu, hp, hclose⟩ := hO.at_ i (by rw [List.length_append, hll, List.length_cons]; omega)
      have hat : (mkL (ts.take i) k ++ y :: ts.drop (i + 1))[i]'(by rw [List.length_append, hll, List.length_cons]; omega) = y := by
        rw [List.getElem_append_right (by omega)]
        simp [hll]
      rw [hat] at ha0 ha1 hu
      injection e with e1 e2 e3
      subst e1
      subst e3
      obtain ⟨kk, hkk⟩ : ∃ kk, kk = k + 2 * (cnts (ts.take i) : Int) := ⟨_, rfl⟩
      rw [← hkk]
      have hbk : 0 ≤ kk ∧ kk + 2 * (cnt y : Int) ≤ 1000000000 := by have := HK.out; omega
      have hcy := cnt_eq y
      have hnn := (List.Perm.nodup_iff hp).1 ((List.Perm.nodup_iff hP).2 HN.out)
      obtain ⟨n1, n2⟩ := List.nodup_cons.1 hnn
      have hlt : ∀ k ∈ fu ++ fr, k < wr.heap.size := fun k hk => Own.lt hO k (hp.mem_iff.2 (List.mem_cons_of_mem _ hk))
      have w1 : wrap64 (kk + 1) = kk + 1 := w64 (by omega) (by omega)
      have w2 : wrap64 (kk + 1 + 1) = kk + 2 := by rw [w64 (by omega) (by omega)]; omega
      have p1 : ((0 : Int) ≤ (i : Int)) = True := eq_true (by omega)
      have q1 : ((i : Int) < (ts.length : Int)) = True := eq_true (by omega)
      have f0 := (blk_cell hg (i * 3)).trans ha0
      have f1 := blk_frozen hg (i * 3)
      have hclose2 : ∀ (w' : World) (t' : Tr) (u' : Value) (fu' : List Nat), w'.heap[g]? = some (.cells (((arr.setIfInBounds (i * 3) (.int .i64 t'.f0)).setIfInBounds (i * 3 + 1) (.string t'.f1)).setIfInBounds (i * 3 + 2) u') 29 (0, 0)) → (∀ k ∈ fr, w'.heap[k]? = wr.heap[k]?) → Own w' u' t'.f2 fu' → ∃ fp', Own w' (.slice (some ⟨g, 0, none⟩) ts.length c) (mkL (ts.take i) k ++ t' :: ts.drop (i + 1)) fp' ∧ fp'.Perm (g :: (fu' ++ fr)) := fun w' t' u' fu' h1 h2 h3 => by
        have := hclose w' t' u' fu' h1 h2 h3
        rwa [List.set_append_right _ _ (by omega), hll, Nat.sub_self, List.set_cons_zero] at this
      have HA := am_ (And.intro ha0 (And.intro ha1 ha2))
      have HG := am_ hg
      have HU := am_ hu
      have HE := am_ (And.intro hct (And.intro hkk (And.intro hbk (And.intro hcy (And.intro n1 (And.intro n2 hlt))))))
      have HC := am_ (And.intro hp (And.intro hP hclose2))
      have HI2 := am_ (And.intro hi (And.intro htk hdr))
      clear hg ha0 ha1 ha2 hu hat hct hkk hbk n1 n2 hlt hp hP hclose hclose2 hnn hO HO e2 hll hcy htk hdr hy hi
      go_wp2_with (first | (refine sv_ 16 ⟨g, i * 3, none⟩ (.int .i64 kk) rfl ?_; rintro w1_ e1_; clear f0 f1; have HG1 := am_ (blk_set HG.out (i * 3) (.int .i64 kk)); rw [← e1_] at HG1; have HS1 : Aside0 (Same wr w1_ [g]) := ⟨by rw [e1_]; exact Same.set _ _ _ (by simp)⟩; clear e1_) |
        ((with_reducible refine gate_callee (f := 74) rfl ?_); refine gL_ (some 22) Try.func74 #[.int .i64 (wrap64 (kk + 1))] ?_; rw [w1]; refine (markCalls (kk + 1) (by have := HE.out; omega) _).mono ?_; rintro e w2_ ⟨rfl, hb⟩; have HG2 := am_ (blk_below HG1.out hb); have HS2 : Aside0 (Same wr w2_ [g]) := ⟨HS1.out.trans (Same.of hb)⟩; have f0 := (blk_cell HG2.out (i * 3 + 1)).trans ((Array.getElem?_setIfInBounds_ne (by omega)).trans HA.out.2.1); have f1 := blk_frozen HG2.out (i * 3 + 1); clear hb; refine ⟨_, rfl, ?_⟩) |
        (refine sv_ 24 ⟨g, i * 3 + 1, none⟩ (.string (markOf (kk + 1))) rfl ?_; rintro w3_ e1_; clear f0 f1; have HG3 := am_ (blk_set HG2.out (i * 3 + 1) (.string (markOf (kk + 1)))); rw [← e1_] at HG3; have HS3 : Aside0 (Same wr w3_ [g]) := ⟨by rw [e1_]; exact HS2.out.trans (Same.set _ _ _ (by simp))⟩; have f2 := (blk_cell HG3.out (i * 3 + 2)).trans ((Array.getElem?_setIfInBounds_ne (by omega)).trans ((Array.getElem?_setIfInBounds_ne (by omega)).trans HA.out.2.2)); clear e1_) |
        ((with_reducible refine gate_callee (f := 49) rfl ?_); refine gL_ (some 33) Try.func49 #[u, .int .i64 (wrap64 (kk + 1 + 1))] ?_; rw [w2]; refine (HIH.out (cnts y.f2) (by have := HE.out; have := HM.out; omega) y.f2 (kk + 2) u _ fu (Nat.le_refl _) (by have := HE.out; omega) (by have := HE.out; omega) (Own.mv HU.out (fun k hk => HS3.out.block k (HE.out.2.2.2.2.2.2 k (List.mem_append_left _ hk)) (fun e => HE.out.2.2.2.2.1 (by rw [← List.mem_singleton.1 e]; exact List.mem_append_left _ hk)))) (List.nodup_append.1 HE.out.2.2.2.2.2.1).1).mono ?_; rintro e w4_ ⟨rfl, hO4, hS4⟩; have HO4 := am_ hO4; have HS4 := am_ hS4; clear hO4 hS4 f2; refine ⟨_, rfl, ?_⟩))
      go_roundg g1_
      case measure => omega
      case rel =>
        obtain ⟨hct, hkk, hbk, hcy, n1, n2, hlt⟩ := HE.out
        obtain ⟨hp, hP, hclose⟩ := HC.out
        obtain ⟨hi, htk, hdr⟩ := HI2.out
        obtain ⟨fq4, hO4, hP4⟩ := HO4.out
        have hd := (List.nodup_append.1 n2).2.2
        have hg4 : w4_.heap[g]? = some (.cells (((arr.setIfInBounds (i * 3) (.int .i64 (mkT y kk).f0)).setIfInBounds (i * 3 + 1) (.string (mkT y kk).f1)).setIfInBounds (i * 3 + 2) u) 29 (0, 0)) := by
          rw [mkT_eq, set_same ((Array.getElem?_setIfInBounds_ne (by omega)).trans ((Array.getElem?_setIfInBounds_ne (by omega)).trans HA.out.2.2))]
          exact (HS4.out.block g (blk_lt HG3.out) (fun e => n1 (List.mem_append_left _ e))).trans HG3.out
        have hfr : ∀ k ∈ fr, w4_.heap[k]? = wr.heap[k]? := fun k hk => by
          have hl := hlt k (List.mem_append_right _ hk)
          exact (HS4.out.block k (Nat.lt_of_lt_of_le hl HS3.out.size) (fun e => hd k e k hk rfl)).trans (HS3.out.block k hl (fun e => n1 (by rw [← List.mem_singleton.1 e]; exact List.mem_append_right _ hk)))
        obtain ⟨fp', hO', hp'⟩ := hclose w4_ (mkT y kk) u fq4 hg4 hfr (by rw [mkT_eq]; exact hO4)
        refine ⟨i + 1, by rw [up1 (by have := len_cnts ts; have := HK.out; omega)], by rw [htk, cnts_snoc]; congr 1; omega, ⟨by omega, by have := HI.out; omega⟩, ⟨fp', by rw [htk, mkL_snoc, List.append_assoc, ← hkk]; exact hO', ?_⟩, ⟨?_⟩⟩
        · exact hp'.trans ((List.Perm.cons g (List.Perm.append_right fr hP4)).trans (hp.symm.trans hP))
        · have hmem : ∀ k ∈ g :: (fu ++ fr), k ∈ fp := fun k hk => hP.mem_iff.1 (hp.mem_iff.2 hk)
          exact HS.out.trans ((HS3.out.more (fun k hk => hmem k (by rw [List.mem_singleton.1 hk]; exact List.mem_cons_self))).trans (HS4.out.more (fun k hk => hmem k (List.mem_cons_of_mem _ (List.mem_append_left _ hk)))))
    · have e : i = ts.length := by have := HI.out; omega
      subst e
      have q1 : ((ts.length : Int) < (ts.length : Int)) = False := eq_false (by omega)
      rw [List.take_length]
      have HO2 : Aside0 (∃ fq, Own wr (.slice A ts.length c) (mkL ts k) fq ∧ fq.Perm fp) := ⟨by simpa using HO.out⟩
      clear HO hi
      go_wp2
      go_ret
      exact ⟨rfl, HO2.out, HS.out⟩
theorem Sl.mark {w0 w : World} {ps : List Pc} {v : Value} {ts : List Tr} (H : Sl w0 w ps) (i : Nat) (k : Int) (hi : ps[i]? = some (tre v ts)) (h0 : 0 ≤ k) (hk : k + 2 * cnts ts ≤ 1000000000) :
    Calls Try.prog 49 #[v, .int .i64 k] w fun e w' => e = .returned (.int .i64 (k + 2 * cnts ts)) ∧ Sl w0 w' (ps.set i (tre v (mkL ts k))) := by
  obtain ⟨f, hO, hn, hg, hc⟩ := H.opn i hi
  refine (markAt _ ts k v w f (Nat.le_refl _) h0 hk hO hn).mono ?_
  rintro e w' ⟨rfl, ⟨fq, h1, h2⟩, h3⟩
  exact ⟨rfl, hc w' (tre v (mkL ts k)) fq (h3.below H.bel hg) h1 ((List.Perm.nodup_iff h2).2 hn) (fun k hk => Or.inl (h2.mem_iff.1 hk)) h3.block⟩
end Go.Proofs.Ytldgkgdgcfllmaa
end
section
namespace Go.Proofs.Ytldgkgdgcfllmaa
open Go.RowKit Go.Shelf Go.Proofs.Ytldgkgdgcfllmaa.P Go.Proofs.Ytldgkgdgcfllmaa.Pl Go.Proofs.Ytldgkgdgcfllmaa.Rg Go.Proofs.YtldgkgdgcfllmaaW.PrintWords Go.Proofs.YtldgkgdgcfllmaaW.PrintLast Go.Proofs.YtldgkgdgcfllmaaW.PrintMore
set_option linter.unusedVariables false
set_option linter.unusedSimpArgs false
def Th : Bool × List (List Nat × List Nat) := (true, [([], []), ([], []), ([0, 1], [0, 1]), ([2], [2]), ([3], [3]), ([], []), ([5], [5]), ([4, 6], [4, 6])])
def Bh : List Nat := [0, 0, 3, 7, 15, 0, 32, 127]
theorem tabh : rtab .any (opsOf Try.f50 7) = Th := by kernel_rfl
theorem bitsh : waitsOk Th.2 Bh = true := by kernel_rfl
theorem mkL_at : ∀ (l : List Tr) (i : Nat) (hi : i < l.length) (k : Int), (mkL l k)[i]'(by rw [mkL_len]; exact hi) = mkT (l[i]'hi) (k + 2 * (cnts (l.take i) : Nat))
  | x :: l, 0, _, k => by simp [mkL, cnts]
  | x :: l, i + 1, hi, k => by
    simp only [mkL, List.getElem_cons_succ, List.take_succ_cons, cnts]
    rw [mkL_at l i (by simpa using hi), show k + 2 * (cnt x : Int) + 2 * ((cnts (l.take i) : Nat) : Int) = k + 2 * ((cnt x + cnts (l.take i) : Nat) : Int) by omega]
def HeldAt (m : Nat) : Prop := ∀ (ts : List Tr) (k : Int) (A : Option Addr) (c : Nat) (w : World), cnts ts ≤ m → 0 ≤ k → k + 2 * cnts ts ≤ 1000000000 → Kd.C k29 w A (mkL ts k).length (mkL ts k) →
  Calls Try.prog 50 #[.slice A ts.length c, .int .i64 k] w fun e w' => e = .returned (.int .i64 (k + 2 * cnts ts)) ∧ Below w.heap.size w w'
set_option maxHeartbeats 4000000 in
set_option maxRecDepth 100000 in
theorem heldAt : ∀ m, HeldAt m := by
  intro m
  induction m using Nat.strongRecOn with
  | _ m ih =>
  intro ts k A c w hm h0 hk hC
  have HM := am_ hm
  have HK := am_ (And.intro h0 hk)
  have HC := am_ hC
  have HIH := am_ ih
  clear hm h0 hk hC ih
  go_enter Try.func50, Try.ntmps50
  go_wp2
  go_loopg [1, 5] ts.length (fun gg v1 v5 wr => ∃ (i : Nat), v5 = .int .i64 (i : Int) ∧ v1 = .int .i64 (k + 2 * cnts (ts.take i)) ∧ Aside0 (i ≤ ts.length ∧ ts.length ≤ gg + i) ∧ Aside0 (Below w.heap.size w wr))
  case atStart => exact ⟨0, rfl, by simp [cnts], ⟨Nat.zero_le _, by omega⟩, ⟨Below.refl _ _⟩⟩
  case round =>
    obtain ⟨i, rfl, rfl, HI, HB⟩ := hrel
    by_cases hi : i < ts.length
    · obtain ⟨g1_, rfl⟩ : ∃ q, gk = q + 1 := ⟨gk - 1, by have := HI.out; omega⟩
      obtain ⟨ad, A2, c2, z, rfl, ⟨hz, -, -⟩, hx, hl2, hC2⟩ := kid_ HC.out i (by rw [mkL_len]; exact hi)
      rw [mkL_at ts i hi] at hz
      obtain ⟨y, hy⟩ : ∃ y, y = ts[i] := ⟨_, rfl⟩
      obtain ⟨kk, hkk⟩ : ∃ kk, kk = k + 2 * (cnts (ts.take i) : Int) := ⟨_, rfl⟩
      rw [← hy, ← hkk, mkT_eq] at hz
      subst hz
      rw [← hkk]
      have htk : ts.take (i + 1) = ts.take i ++ [y] := by rw [hy]; exact List.take_succ_eq_append_getElem hi
      have hct : cnts (ts.take i) + cnt y ≤ cnts ts := by rw [hy]; exact cnts_take ts i hi
      have hcy := cnt_eq y
      have hln := len_cnts ts
      have hbk : 0 ≤ kk ∧ kk + 2 * (cnt y : Int) ≤ 1000000000 := by have := HK.out; omega
      have w1 : wrap64 (kk + 1) = kk + 1 := w64 (by omega) (by omega)
      have w2 : wrap64 (kk + 1 + 1) = kk + 2 := by rw [w64 (by omega) (by omega)]; omega
      have p1 : ((0 : Int) ≤ (i : Int)) = True := eq_true (by omega)
      have q1 : ((i : Int) < (ts.length : Int)) = True := eq_true (by omega)
      have q2 : decide (kk + 2 + 2 * (cnts y.f2 : Int) < 0) = false := decide_eq_false (by omega)
      have q3 : ((markOf (kk + 1)).toList != (markOf (kk + 1)).toList) = false := by simp
      dsimp only at hx hl2 hC2
      rw [mkL_len] at hx hl2
      have HX := am_ hx
      have HC2 := am_ hC2
      have HE := am_ (And.intro hct (And.intro hkk (And.intro hbk (And.intro hcy (And.intro htk (And.intro hi hln))))))
      replace hx := And.imp (pw_cell_below HB.out) (And.imp (pw_cell_below HB.out) (pw_cell_below HB.out)) hx
      clear hl2 hC2 hct hkk hbk hcy htk hi hln hy
      go_wp2
      refine start_ (n := 8) (S := (fun w' => w'.cell? ⟨(ad.add (i * 3)).block, (ad.add (i * 3)).off + 1, none⟩ = some (.string (markOf (kk + 1))))) (ds := []) (bl 8 0) (by kernel_rfl) rfl rfl (hx.2.1) (fun hHeld => ?_); refine with_tabW tabh bitsh (fun HT_ HW_ => ?_)
      clear hx
      replace HB := am_ (below_drew1 HB.out)
      refine ph_ 0 21 (bl 8 1) HT_ ?_
      refine ph_ 1 22 (bl 8 3) HT_ ?_
      refine ph_ 2 23 (bl 8 7) HT_ ?_
      refine ph_ 3 24 (bl 8 15) HT_ ?_
      refine ph_ 5 26 (bl 8 47) HT_ ?_
      refine th_ 4 25 (bl 8 63) HT_ HW_ hHeld ?_
      refine on_ 6 (some 27) (bl 8 127) HT_ (fun K hK => ?_)
      refine gO_ Try.func74 #[.int .i64 (kk + 1)] ?_
      refine (markCalls (kk + 1) (by have := HE.out; omega) _).mono ?_
      rintro e w2_ ⟨rfl, hb⟩
      replace HB := am_ (below_step HB.out hb)
      refine ⟨_, rfl, ?_⟩
      refine hK.out _ _ ((pw_cell_below hb hHeld)) (fun hHeld => ?_)
      clear hK K
      refine nm_ 27 ?_
      refine ph_ 7 28 (bl 8 255) HT_ ?_
      refine done_ (done_of HT_.out (by kernel_rfl)) ?_
      clear HT_ HW_ hHeld hb
      have hx := HX.out
      replace hx := And.imp (pw_cell_below HB.out) (And.imp (pw_cell_below HB.out) (pw_cell_below HB.out)) hx
      go_wp2_with ((with_reducible refine gate_callee (f := 50) rfl ?_); refine gL_ (some 37) Try.func50 #[.slice A2 y.f2.length c2, .int .i64 (wrap64 (kk + 1 + 1))] ?_; rw [w2]; refine (HIH.out (cnts y.f2) (by have := HE.out; have := HM.out; omega) y.f2 (kk + 2) A2 c2 _ (Nat.le_refl _) (by have := HE.out; omega) (by have := HE.out; omega) (Kd.C_below HC2.out HB.out)).mono ?_; rintro e w4_ ⟨rfl, hb⟩; replace HB := am_ (below_step HB.out hb); clear hb hx; refine ⟨_, rfl, ?_⟩)
      go_roundg g1_
      case measure => omega
      case rel =>
        obtain ⟨hct, hkk, hbk, hcy, htk, hi, hln⟩ := HE.out
        exact ⟨i + 1, by rw [up1 (by have := HK.out; omega)], by rw [htk, cnts_snoc]; congr 1; omega, ⟨by omega, by have := HI.out; omega⟩, HB⟩
    · have e : i = ts.length := by have := HI.out; omega
      subst e
      have q1 : ((ts.length : Int) < (ts.length : Int)) = False := eq_false (by omega)
      rw [List.take_length]
      clear hi
      go_wp2
      go_ret
      exact ⟨rfl, HB.out⟩
end Go.Proofs.Ytldgkgdgcfllmaa
end
section
namespace Go.Proofs.Ytldgkgdgcfllmaa
open Go.RowKit Go.Shelf Go.Proofs.Ytldgkgdgcfllmaa.P Go.Proofs.Ytldgkgdgcfllmaa.Pl Go.Proofs.Ytldgkgdgcfllmaa.Rg Go.Proofs.YtldgkgdgcfllmaaW.PrintWords Go.Proofs.YtldgkgdgcfllmaaW.PrintLast Go.Proofs.YtldgkgdgcfllmaaW.PrintMore
set_option linter.unusedVariables false
set_option linter.unusedSimpArgs false
theorem kidL_ {w : World} {A : Option Addr} {ts : List TL} (h : Kd.C k24 w A ts.length ts) (i : Nat) (hi : i < ts.length) : ∃ ad A2 c2 y, A = some ad ∧ (ts.take (i + 1) = ts.take i ++ [y] ∧ y ∈ ts) ∧ (w.cell? (ad.add (i * 3)) = some (.int .i64 y.f0) ∧ w.cell? ⟨(ad.add (i * 3)).block, (ad.add (i * 3)).off + 1, none⟩ = some (.string y.f1) ∧ w.cell? ⟨(ad.add (i * 3)).block, (ad.add (i * 3)).off + 2, none⟩ = some (.slice A2 y.f2.length c2)) ∧ y.f2.length ≤ c2 ∧ Kd.C k24 w A2 y.f2.length y.f2 := by
  obtain ⟨ad, A2, c2, e, h0, h1, h2, h3, h4⟩ := at_T24 h (i : Int) (by omega) (by omega)
  have hy : rd_T24 ts (i : Int) = ts[i]'hi := by simp [rd_T24, List.getD_eq_getElem?_getD, hi]
  rw [hy, Int.toNat_natCast] at h0 h1 h2
  rw [hy] at h3 h4
  exact ⟨ad, A2, c2, _, e, ⟨List.take_succ_eq_append_getElem hi, List.getElem_mem hi⟩, ⟨h0, h1, h2⟩, h3, h4⟩
abbrev tvL (t : TL) (A : Option Addr) (c : Nat) : Value := .agg #[.int .i64 t.f0, .string t.f1, .slice A t.f2.length c]
abbrev ToAt (x : TL) : Prop := ∀ (A : Option Addr) (c : Nat) (w : World), Kd.C k24 w A x.f2.length x.f2 → x.f2.length ≤ c → Calls Try.prog 14 #[tvL x A c] w (PT w (cv x))
set_option maxHeartbeats 4000000 in
set_option maxRecDepth 100000 in
theorem toRows (l : List TL) (hl : l.length ≤ 100000000) (ih : ∀ x ∈ l, ToAt x) (A : Option Addr) (c : Nat) (w : World) (hC : Kd.C k24 w A l.length l) : Calls Try.prog 38 #[.slice A l.length c] w fun e w' => ∃ v, e = .returned v ∧ Sl w w' [tre v (l.map cv)] := by
  have HC := am_ hC
  have HIH := am_ ih
  have HL := am_ hl
  have H := Sl.start w
  clear hC ih hl
  go_enter Try.func38, Try.ntmps38
  go_wp2_with (refine mk_ H 7 l.length rfl rfl (by have := HL.out; omega) ?_; clear H; intro g w1 H)
  go_loopg [4] l.length (fun gg v4 wr => ∃ (i : Nat), v4 = .int .i64 (i : Int) ∧ Aside0 (i ≤ l.length ∧ l.length ≤ gg + i) ∧ Sl w wr [tre (.slice (some ⟨g, 0, none⟩) l.length l.length) ((l.take i).map cv ++ List.replicate (l.length - i) z29)])
  case atStart => exact ⟨0, rfl, ⟨Nat.zero_le _, by omega⟩, by simpa using H⟩
  case round =>
    clear H
    obtain ⟨i, rfl, HI, H⟩ := hrel
    by_cases hi : i < l.length
    · obtain ⟨g1_, rfl⟩ : ∃ q, gk = q + 1 := ⟨gk - 1, by have := HI.out; omega⟩
      obtain ⟨ad, A2, c2, y, rfl, ⟨hy, hm⟩, hx, hl2, hC2⟩ := kidL_ HC.out i hi
      have HY := am_ hy
      have HM := am_ (HIH.out y hm)
      have HL2 := am_ hl2
      have HC2 := am_ hC2
      replace hx := And.imp H.old (And.imp H.old H.old) hx
      have p1 : ((0 : Int) ≤ (i : Int)) = True := eq_true (by omega)
      have q1 : ((i : Int) < (l.length : Int)) = True := eq_true (by omega)
      have HI2 := am_ hi
      have HLN : Aside0 (i < ((l.take i).map cv ++ List.replicate (l.length - i) z29).length) := ⟨by simp; omega⟩
      clear hy hm hl2 hC2 hi
      go_wp2_with (first | ((with_reducible refine gate_callee (f := 14) rfl ?_); refine gL_ (some 20) Try.func14 #[tvL y A2 c2] ?_; refine (HM.out A2 c2 _ (Kd.C_below HC2.out H.bel) HL2.out).mono ?_; rintro e w2 ⟨v2, rfl, H2⟩; obtain ⟨A3, c3, rfl, -, -⟩ := H2.tv 0; replace H := H.call H2; clear H2 hx; obtain ⟨x0, x1, x2, hz⟩ := H.e3 0 i HLN.out; refine ⟨_, rfl, ?_⟩) | (refine se_ (t := cv y) H 21 0 1 i rfl HLN.out ?_; clear H hz; intro w3 H))
      go_roundg g1_
      case measure => omega
      case rel =>
        refine ⟨i + 1, by rw [up1 (by have := HL.out; have := HI2.out; omega)], ⟨HI2.out, by have := HI.out; omega⟩, ?_⟩
        have H := H.pre 1
        have hi := HI2.out
        have e : ((l.take i).map cv ++ List.replicate (l.length - i) z29).set i (cv y) = (l.take (i + 1)).map cv ++ List.replicate (l.length - (i + 1)) z29 := by
          rw [HY.out, List.map_append, List.set_append_right _ _ (by simp; omega), show i - ((l.take i).map cv).length = 0 by simp; omega, show l.length - i = (l.length - (i + 1)) + 1 by omega, List.replicate_succ, List.set_cons_zero, List.append_assoc]
          rfl
        rw [← e]
        exact H
    · have e : i = l.length := by have := HI.out; omega
      subst e
      rw [List.take_length, Nat.sub_self, List.replicate_zero, List.append_nil] at H
      have q1 : ((l.length : Int) < (l.length : Int)) = False := eq_false (by omega)
      clear hi
      go_wp2
      go_ret
      exact ⟨_, rfl, H⟩
set_option maxHeartbeats 4000000 in
set_option maxRecDepth 100000 in
theorem toAt (x : TL) (hx : wt x ≤ 1048576) : ToAt x := by
  induction x using TL.ind with
  | h x ih =>
  intro A c w hC hc
  have hlen : x.f2.length ≤ 100000000 := by have := wts_len x.f2; rw [wt_eq] at hx; omega
  have hih : ∀ y ∈ x.f2, ToAt y := fun y hy => ih y hy (by
    obtain ⟨i, hi, e⟩ := List.mem_iff_getElem.1 hy
    have := wts_drop x.f2 i hi
    have h2 : ∀ (l : List TL) (i : Nat), wts (l.drop i) ≤ wts l := fun l => by
      induction l with
      | nil => intro i; simp
      | cons z l ih => intro i; cases i with
        | zero => simp
        | succ i => simp only [List.drop_succ_cons, wts]; have := ih i; omega
    have := h2 x.f2 i
    rw [wt_eq] at hx
    rw [← e]
    omega)
  have HR := am_ (fun (w' : World) (hb : Below w.heap.size w w') => toRows x.f2 hlen hih A c w' (Kd.C_below hC hb))
  have H := Sl.start w
  have hu := Try.underlying29
  have hu2 := Try.underlying24
  rw [cv_eq]
  clear hC hc ih hih hx hlen
  go_enter Try.func14, Try.ntmps14
  go_wp2_with (first | (refine nw_ H 1 #[.int .i64 x.f0, .string x.f1, .slice A x.f2.length c] 24 rfl ?_; clear H; intro g1 w1 H) | (refine nw_ H 2 zt 29 rfl ?_; clear H; intro g2 w1 H) | (refine nw_ H 3 zt 29 rfl ?_; clear H; intro g3 w1 H; have F0 := H.f3 0; have F2 := H.f3 2) | (refine p1_ H 6 2 0 rfl ?_; clear H F0 F2; intro w1 H; have F0 := H.f3 0; have F2 := H.f3 2) | (refine p1_ H 9 2 1 rfl ?_; clear H F0 F2; intro w1 H; have F0 := H.f3 0) |
    ((with_reducible refine gate_callee (f := 38) rfl ?_); refine gL_ (some 12) Try.func38 #[.slice A x.f2.length c] ?_; refine (HR.out _ H.bel).mono ?_; rintro e w2 ⟨v2, rfl, H2⟩; obtain ⟨A3, c3, e3, -, -⟩ := H2.tv 0; rw [List.length_map] at e3; subst e3; replace H := H.call H2; clear H2 F0; have F2 := H.f3 2; refine ⟨_, rfl, ?_⟩) |
    (refine p1_ H 13 2 2 rfl ?_; clear H F2; intro w1 H; have F1 := H.f3 1; have F2 := H.f3 2) | (refine p3_ H 2 1 rfl ?_; clear H F1 F2; intro w1 H))
  refine bodyPost_ret (results_cell_row rfl _ _ g2 29 _ (0, 0) _ rfl (H.blk 1 rfl) hu rfl (by kernel_rfl)) rfl ?_
  exact ⟨_, rfl, H.one 3⟩
end Go.Proofs.Ytldgkgdgcfllmaa
end
section
namespace Go.Proofs.Ytldgkgdgcfllmaa
open Go.RowKit Go.Shelf Go.Proofs.Ytldgkgdgcfllmaa.P Go.Proofs.Ytldgkgdgcfllmaa.Pl Go.Proofs.Ytldgkgdgcfllmaa.Rg Go.Proofs.Ytldgkgdgcfllmaa.Rk Go.Proofs.YtldgkgdgcfllmaaW.PrintWords Go.Proofs.YtldgkgdgcfllmaaW.PrintLast Go.Proofs.YtldgkgdgcfllmaaW.PrintMore
set_option linter.unusedVariables false
set_option linter.unusedSimpArgs false
theorem cnts_le : ∀ (l : List TL), (∀ x ∈ l, cnt (cv x) ≤ wt x + 1) → cnts (l.map cv) ≤ wts l
  | [], _ => Nat.le_refl _
  | x :: l, h => by
    simp only [List.map_cons, cnts, wts]
    have h1 := h x List.mem_cons_self
    have h2 := cnts_le l (fun y hy => h y (List.mem_cons_of_mem _ hy))
    omega
theorem cnt_cv : ∀ x : TL, cnt (cv x) ≤ wt x + 1 := by
  refine TL.ind fun x ih => ?_
  rw [cnt_eq, cv_eq, wt_eq]
  have := cnts_le x.f2 ih
  show 1 + cnts (x.f2.map cv) ≤ _
  omega
theorem eqCalls (t : Tr) (ht : Thin t) (A1 A2 : Option Addr) (c1 c2 : Nat) (w : World) (h1 : Kd.C k29 w A1 t.f2.length t.f2) (hc1 : t.f2.length ≤ c1) (h2 : Kd.C k29 w A2 t.f2.length t.f2) (hc2 : t.f2.length ≤ c2) :
    Calls Try.prog 16 #[tv t A1 c1, tv t A2 c2] w fun e w' => e = .returned (.bool true) ∧ Below w.heap.size w w' := by
  obtain ⟨k, hk⟩ := (eq_tree t ht).rounds
  exact laws_eqRegex.calls k t.f0 t.f1 A1 c1 t.f2 t.f0 t.f1 A2 c2 t.f2 true w h1 hc1 h2 hc2 hk
theorem Sl.cut {w0 w : World} {ps qs : List Pc} (H : Sl w0 w (ps ++ qs)) : Sl w0 w ps := by
  have := H.pre ps.length
  rwa [List.take_left] at this
set_option maxRecDepth 100000 in
theorem mkCall {w0 w : World} {ps : List Pc} {v : Value} {ts : List Tr} (H : Sl w0 w ps) (i : Nat) (a : Int) (b : ByteArray) (hi : ps[i]? = some (tre v ts)) (hk : cnts ts ≤ 400000000) :
    Calls Try.prog 23 #[.agg #[.int .i64 a, .string b, v], .int .i64 1] w fun e w' => e = .returned (.int .i64 (1 + 2 * cnts ts)) ∧ Sl w0 w' (ps.set i (tre v (mkL ts 1))) := by
  have hl := (List.getElem?_eq_some_iff.1 hi).1
  obtain ⟨A, c, rfl, -, -⟩ := H.tv i hi
  have hu := Try.underlying29
  go_enter Try.func23, Try.ntmps23
  go_wp2_with (first | (refine nw_ H 2 #[.int .i64 a, .string b, .slice A ts.length c] 29 rfl ?_; clear H; intro g1 w1 H; have F : w1.cell? ⟨g1, 2, none⟩ = some (.slice A ts.length c) := (blk_cell (H.blk ps.length List.getElem?_concat_length) 2).trans rfl) |
    ((with_reducible refine gate_callee (f := 49) rfl ?_); refine gL_ (some 8) Try.func49 #[.slice A ts.length c, .int .i64 1] ?_; refine (H.mark i 1 (by rw [List.getElem?_append_left hl]; exact hi) (by omega) (by omega)).mono ?_; rintro e w2 ⟨rfl, H2⟩; clear H F; refine ⟨_, rfl, ?_⟩))
  go_ret
  refine ⟨rfl, ?_⟩
  rw [List.set_append_left _ _ hl] at H2
  exact H2.cut
set_option maxRecDepth 100000 in
theorem heCall {w : World} {A : Option Addr} {c : Nat} {ts : List Tr} (a : Int) (b : ByteArray) (hC : Kd.C k29 w A (mkL ts 1).length (mkL ts 1)) (hk : cnts ts ≤ 400000000) :
    Calls Try.prog 24 #[.agg #[.int .i64 a, .string b, .slice A ts.length c], .int .i64 1] w fun e w' => e = .returned (.int .i64 (1 + 2 * cnts ts)) ∧ Below w.heap.size w w' := by
  have H := Sl.start w
  have hu := Try.underlying29
  have HC := am_ hC
  have q1 : decide (1 + 2 * (cnts ts : Int) < 0) = false := decide_eq_false (by omega)
  clear hC
  go_enter Try.func24, Try.ntmps24
  go_wp2_with (first | (refine nw_ H 2 #[.int .i64 a, .string b, .slice A ts.length c] 29 rfl ?_; clear H; intro g1 w1 H; have F0 := H.f3 0) |
    ((with_reducible refine gate_callee (f := 50) rfl ?_); refine gL_ (some 8) Try.func50 #[.slice A ts.length c, .int .i64 1] ?_; refine (heldAt (cnts ts) ts 1 A c _ (Nat.le_refl _) (by omega) (by omega) (Kd.C_below HC.out H.bel)).mono ?_; rintro e w2 ⟨rfl, hb⟩; replace H := H.only hb; clear F0 hb; refine ⟨_, rfl, ?_⟩))
  go_ret
  exact ⟨rfl, H.bel⟩
theorem Sl.nf {w0 w : World} {ps qs : List Pc} (H : Sl w0 w ps) (e : ps = qs := by simp only [List.cons_append, List.nil_append, List.set_cons_zero, List.set_cons_succ]; rfl) : Sl w0 w qs := e ▸ H
theorem Sl.rd {w0 w : World} {ps : List Pc} {A : Option Addr} {n c : Nat} {ts : List Tr} (H : Sl w0 w ps) (i : Nat) (hi : ps[i]? = some (tre (.slice A n c) ts) := by rfl) : ts.length ≤ c ∧ Kd.C k29 w A ts.length ts := by
  obtain ⟨A', c', e, h1, h2⟩ := H.tv i hi
  injection e with e1 e2 e3
  subst e1
  subst e3
  exact ⟨h1, h2⟩
end Go.Proofs.Ytldgkgdgcfllmaa
end
section
namespace Go.Proofs.Ytldgkgdgcfllmaa
open Go.RowKit Go.Shelf Go.Proofs.Ytldgkgdgcfllmaa.P Go.Proofs.Ytldgkgdgcfllmaa.Pl Go.Proofs.Ytldgkgdgcfllmaa.Rg Go.Proofs.Ytldgkgdgcfllmaa.Rk Go.Proofs.YtldgkgdgcfllmaaW.PrintWords Go.Proofs.YtldgkgdgcfllmaaW.PrintLast Go.Proofs.YtldgkgdgcfllmaaW.PrintMore
set_option linter.unusedVariables false
set_option linter.unusedSimpArgs false
def Tl : Bool × List (List Nat × List Nat) := (true, [([], []), ([], []), ([1], [1]), ([0, 2, 2], [0, 2]), ([3], [3])])
def Bl : List Nat := [0, 0, 2, 7, 15]
theorem tabl : rtab .any (opsOf Try.f9 12) = Tl := by kernel_rfl
theorem bitsl : waitsOk Tl.2 Bl = true := by kernel_rfl
set_option maxHeartbeats 40000000 in
set_option maxRecDepth 100000 in
theorem lawDo0 (x : TL) (s : ByteArray) (t q : Tr) (A : Option Addr) (c : Nat) (w : World) (k : Nat) (n0 : Int) (hn0 : 0 ≤ n0) (hk : laws_szRegex.f k x.f0 x.f1 x.f2 1048576 = some n0) (hC : Kd.C k24 w A x.f2.length x.f2) (hc : x.f2.length ≤ c)
    (hto : ∀ w', Below w.heap.size w w' → Calls Try.prog 14 #[tvL x A c] w' (PT w' t)) (hsp : CT 29 s t q) (him : CT 30 s t q)
    (htt : Thin t) (htq : Thin q) (hct : cnts t.f2 ≤ 400000000) (hcq : cnts q.f2 ≤ 400000000) (hs : s.size ≤ 1048576) :
    Calls Try.prog 9 #[tvL x A c, .string s] w fun e w' => e = .returned (.bool true) ∧ Below w.heap.size w w' := by
  have HC := am_ hC
  have HL := am_ hc
  have HK := am_ hk
  have HTo := am_ hto
  have HSp := am_ hsp
  have HIm := am_ him
  have HT := am_ (And.intro htt (And.intro htq (And.intro hct hcq)))
  have q1 : decide ((s.size : Int) > 1048576) = false := decide_eq_false (by omega)
  have q2 : ((1048576 : Int) < (s.size : Int)) = False := eq_false (by omega)
  have q3 : decide (n0 < 0) = false := decide_eq_false (by omega)
  have q4 : decide (1 + 2 * (cnts t.f2 : Int) < 0) = false := decide_eq_false (by omega)
  have q5 : decide (1 + 2 * (cnts q.f2 : Int) < 0) = false := decide_eq_false (by omega)
  have H := Sl.start w
  have hu := Try.underlying29
  have hu2 := Try.underlying24
  clear hC hc hk hto hsp him htt htq hct hcq hs hn0
  go_enter Try.func9, Try.ntmps9
  go_wp2_with (first | (refine nw_ H 2 #[.int .i64 x.f0, .string x.f1, .slice A x.f2.length c] 24 rfl ?_; clear H; intro g0 w1 H; replace H := H.nf; have F0 := H.f3 0) |
    ((with_reducible refine gate_dst (N := 18) rfl ?_); refine gL_ (some 18) Try.func12 #[tvL x A c, .int .i64 1048576] ?_; refine (laws_szRegex.calls k x.f0 x.f1 A c x.f2 1048576 n0 _ (Kd.C_below HC.out H.bel) HL.out HK.out).mono ?_; rintro e w2 ⟨rfl, hb⟩; replace H := H.only hb; clear hb F0; have F0 := H.f3 0; refine ⟨_, rfl, ?_⟩) |
    ((with_reducible refine gate_dst (N := 22) rfl ?_); refine gL_ (some 22) Try.func14 #[tvL x A c] ?_; refine (HTo.out _ H.bel).mono ?_; rintro e w2 ⟨v, rfl, H2⟩; obtain ⟨A1, c1, rfl, -, -⟩ := H2.tv 0; replace H := (H.call H2).nf; clear H2 F0; refine ⟨_, rfl, ?_⟩) |
    ((with_reducible refine gate_dst (N := 24) rfl ?_); refine gL_ (some 24) Try.func29 #[tv t A1 c1, .string s] ?_; refine (HSp.out A1 c1 _ (H.rd 1).2 (H.rd 1).1).mono ?_; rintro e w2 ⟨v, rfl, H2⟩; obtain ⟨A2, c2, rfl, -, -⟩ := H2.tv 0; replace H := (H.call H2).nf; clear H2; refine ⟨_, rfl, ?_⟩) |
    (refine nw_ H 6 zt 29 rfl ?_; clear H; intro g3 w1 H; replace H := H.nf; have F3 := H.f3 3) | (refine p3_ H 6 3 rfl ?_; clear H F3; intro w1 H; replace H := H.nf; have F0 := H.f3 0) |
    ((with_reducible refine gate_dst (N := 26) rfl ?_); refine gL_ (some 26) Try.func14 #[tvL x A c] ?_; refine (HTo.out _ H.bel).mono ?_; rintro e w2 ⟨v, rfl, H2⟩; obtain ⟨A4, c4, rfl, -, -⟩ := H2.tv 0; replace H := (H.call H2).nf; clear H2 F0; refine ⟨_, rfl, ?_⟩) |
    (refine nw_ H 7 zt 29 rfl ?_; clear H; intro g5 w1 H; replace H := H.nf; have F5 := H.f3 5) | (refine p3_ H 7 5 rfl ?_; clear H F5; intro w1 H; replace H := H.nf; have F5 := H.f3 5) |
    ((with_reducible refine gate_dst (N := 29) rfl ?_); refine gL_ (some 29) Try.func30 #[tv t A4 c4, .string s] ?_; refine (HIm.out A4 c4 _ (H.rd 4).2 (H.rd 4).1).mono ?_; rintro e w2 ⟨v, rfl, H2⟩; obtain ⟨A6, c6, rfl, -, -⟩ := H2.tv 0; replace H := (H.call H2).nf; clear H2 F5; refine ⟨_, rfl, ?_⟩) |
    (refine nw_ H 8 zt 29 rfl ?_; clear H; intro g7 w1 H; replace H := H.nf; have F7 := H.f3 7) | (refine p3_ H 8 7 rfl ?_; clear H F7; intro w1 H; replace H := H.nf; have F7 := H.f3 7; have F3 := H.f3 3) |
    ((with_reducible refine gate_dst (N := 32) rfl ?_); refine gL_ (some 32) Try.func16 #[tv q A6 c6, tv q A2 c2] ?_; refine (eqCalls q HT.out.2.1 A6 A2 c6 c2 _ (H.rd 6).2 (H.rd 6).1 (H.rd 2).2 (H.rd 2).1).mono ?_; rintro e w2 ⟨rfl, hb⟩; replace H := H.only hb; clear hb F7 F3; have F0 := H.f3 0; have F5 := H.f3 5; refine ⟨_, rfl, ?_⟩))
  refine start_ (n := 5) (S := (fun w' => w'.cell? ⟨g5, 0, none⟩ = some (.int .i64 t.f0) ∧ w'.cell? ⟨g5, 1, none⟩ = some (.string t.f1) ∧ w'.cell? ⟨g5, 2, none⟩ = some (.slice A4 t.f2.length c4) ∧ w'.cell? ⟨g0, 0, none⟩ = some (.int .i64 x.f0) ∧ w'.cell? ⟨g0, 1, none⟩ = some (.string x.f1) ∧ w'.cell? ⟨g0, 2, none⟩ = some (.slice A x.f2.length c))) (ds := []) #[false, false, false, false, false] (by kernel_rfl) rfl rfl (⟨F5.1.1, F5.2.1.1, F5.2.2.1, F0.1.1, F0.2.1.1, F0.2.2.1⟩) (fun hHeld => ?_); refine with_tabW tabl bitsl (fun HT_ HW_ => ?_)
  clear F0 F5
  replace H := H.drew
  refine th_ 0 34 #[true, false, false, false, false] HT_ HW_ hHeld ?_
  refine th_ 1 35 #[true, true, false, false, false] HT_ HW_ hHeld ?_
  refine on_ 2 (some 36) #[true, true, true, false, false] HT_ (fun K hK => ?_)
  refine gO_ Try.func14 #[tvL x A c] ?_
  refine (HTo.out _ H.bel).mono ?_
  rintro e w2 ⟨v, rfl, H2⟩
  obtain ⟨A8, c8, rfl, -, -⟩ := H2.tv 0
  refine ⟨_, rfl, ?_⟩
  replace H := (H.call H2).nf
  refine hK.out _ _ ((sb_ H2.bel hHeld)) (fun hHeld => ?_)
  clear hK K
  refine nm_ 36 ?_
  refine on_ 3 (some 37) #[true, true, true, true, false] HT_ (fun K hK => ?_)
  refine gO_ Try.func16 #[tv t A4 c4, tv t A8 c8] ?_
  refine (eqCalls t HT.out.1 A4 A8 c4 c8 _ (H.rd 4).2 (H.rd 4).1 (H.rd 8).2 (H.rd 8).1).mono ?_
  rintro e w3 ⟨rfl, hb⟩
  replace H := H.only hb
  refine ⟨_, rfl, ?_⟩
  refine hK.out _ _ ((sb_ hb hHeld)) (fun hHeld => ?_)
  clear hK K
  refine nm_ 37 ?_
  refine ph_ 4 38 #[true, true, true, true, true] HT_ ?_
  refine done_ (done_of HT_.out (by kernel_rfl)) ?_
  clear HT_ HW_ hHeld hb H2
  have F5 := H.f3 5
  go_wp2_with (first | ((with_reducible refine gate_dst (N := 41) rfl ?_); refine gL_ (some 41) Try.func23 #[tv t A4 c4, .int .i64 1] ?_; refine (mkCall H 4 t.f0 t.f1 rfl HT.out.2.2.1).mono ?_; rintro e w2 ⟨rfl, H2⟩; clear H F5; have H := H2.nf; clear H2; have F7 := H.f3 7; have F3 := H.f3 3; refine ⟨_, rfl, ?_⟩) |
    ((with_reducible refine gate_dst (N := 47) rfl ?_); refine gate_guard (by rfl) ?_; dsimp only; refine gL_ (some 47) Try.func16 #[tv q A6 c6, tv q A2 c2] ?_; refine (eqCalls q HT.out.2.1 A6 A2 c6 c2 _ (H.rd 6).2 (H.rd 6).1 (H.rd 2).2 (H.rd 2).1).mono ?_; rintro e w2 ⟨rfl, hb⟩; replace H := H.only hb; clear hb F7 F3; have F7 := H.f3 7; refine ⟨_, rfl, ?_⟩) |
    ((with_reducible refine gate_dst (N := 52) rfl ?_); refine gL_ (some 52) Try.func23 #[tv q A6 c6, .int .i64 1] ?_; refine (mkCall H 6 q.f0 q.f1 rfl HT.out.2.2.2).mono ?_; rintro e w2 ⟨rfl, H2⟩; clear H F7; have H := H2.nf; clear H2; have F7 := H.f3 7; refine ⟨_, rfl, ?_⟩) |
    ((with_reducible refine gate_dst (N := 55) rfl ?_); refine gL_ (some 55) Try.func24 #[tv q A6 c6, .int .i64 1] ?_; refine (heCall q.f0 q.f1 (H.rd 6).2 HT.out.2.2.2).mono ?_; rintro e w2 ⟨rfl, hb⟩; replace H := H.only hb; clear hb F7; have F0 := H.f3 0; refine ⟨_, rfl, ?_⟩) |
    ((with_reducible refine gate_dst (N := 62) rfl ?_); refine gL_ (some 62) Try.func14 #[tvL x A c] ?_; refine (HTo.out _ H.bel).mono ?_; rintro e w2 ⟨v, rfl, H2⟩; obtain ⟨A9, c9, rfl, -, -⟩ := H2.tv 0; replace H := (H.call H2).nf; clear H2 F0; refine ⟨_, rfl, ?_⟩) |
    ((with_reducible refine gate_dst (N := 64) rfl ?_); refine gL_ (some 64) Try.func30 #[tv t A9 c9, .string s] ?_; refine (HIm.out A9 c9 _ (H.rd 9).2 (H.rd 9).1).mono ?_; rintro e w2 ⟨v, rfl, H2⟩; obtain ⟨A10, c10, rfl, -, -⟩ := H2.tv 0; replace H := (H.call H2).nf; clear H2; refine ⟨_, rfl, ?_⟩) |
    (refine nw_ H 12 zt 29 rfl ?_; clear H; intro g11 w1 H; replace H := H.nf; have F11 := H.f3 11) | (refine p3_ H 12 11 rfl ?_; clear H F11; intro w1 H; replace H := H.nf; have F11 := H.f3 11; have F3 := H.f3 3) |
    ((with_reducible refine gate_dst (N := 67) rfl ?_); refine gL_ (some 67) Try.func16 #[tv q A10 c10, tv q A2 c2] ?_; refine (eqCalls q HT.out.2.1 A10 A2 c10 c2 _ (H.rd 10).2 (H.rd 10).1 (H.rd 2).2 (H.rd 2).1).mono ?_; rintro e w2 ⟨rfl, hb⟩; replace H := H.only hb; clear hb F11 F3; have F7 := H.f3 7; refine ⟨_, rfl, ?_⟩) |
    ((with_reducible refine gate_dst (N := 71) rfl ?_); refine gL_ (some 71) Try.func24 #[tv q A6 c6, .int .i64 1] ?_; refine (heCall q.f0 q.f1 (H.rd 6).2 HT.out.2.2.2).mono ?_; rintro e w2 ⟨rfl, hb⟩; replace H := H.only hb; clear hb F7; refine ⟨_, rfl, ?_⟩))
  go_ret
  exact ⟨rfl, H.bel⟩
end Go.Proofs.Ytldgkgdgcfllmaa
end
