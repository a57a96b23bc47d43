/- Texts of the proof of FnBoolean, put together. No condition. -/
import Derived.Test.YtogamkblkoobkaaQFnBoolean2
import Derived.Test.YtogamkblkoobkaaQFnBoolean12
import Derived.Test.YtogamkblkoobkaaQFnBoolean6
import Derived.Test.YtogamkblkoobkaaQFnBoolean7
import Derived.Test.YtogamkblkoobkaaQFnBoolean8
import Derived.Test.YtogamkblkoobkaaQFnBoolean4
import Derived.Test.YtogamkblkoobkaaQFnBoolean11
import Derived.Test.YtogamkblkoobkaaQFnBoolean9
section
namespace Go.Proofs.Ytogamkblkoobkaa.Bo
open Go.RowKit Go.Shelf Go.Proofs.Ytogamkblkoobkaa Go.Proofs.Ytogamkblkoobkaa.P Go.Proofs.Ytogamkblkoobkaa.Pl Go.Proofs.Ytogamkblkoobkaa.Wk Go.Proofs.Ytogamkblkoobkaa.Can Go.Proofs.YtogamkblkoobkaaW.PrintWords Go.Proofs.YtogamkblkoobkaaW.PrintLast Go.Proofs.YtogamkblkoobkaaW.PrintMore
set_option linter.unusedVariables false
set_option linter.unusedSimpArgs false
def Tbo8 : Bool × List (List Nat × List Nat) := (true, [([], []), ([], []), ([0, 1], [0, 1]), ([2], [2]), ([3], [3]), ([3], [3]), ([4, 5, 3, 3], [3, 4, 5]), ([6, 3], [3, 6]), ([3, 7], [3, 7]), ([8, 6], [8]), ([9], [9]), ([9], [9]), ([11, 9, 9], [9, 11]), ([10, 12, 12, 9], [9, 10, 12]), ([13, 9], [9, 13]), ([9, 14], [9, 14]), ([15, 13], [15]), ([16], [16]), ([17, 16, 16], [16, 17]), ([16], [16]), ([19, 18, 16], [16, 19]), ([18, 20, 16], [16, 18, 20]), ([16, 21], [16, 21])])
def Bbo8 : List Nat := [0, 0, 3, 7, 15, 15, 63, 127, 255, 511, 1023, 1023, 3071, 8191, 16383, 32767, 65535, 131071, 262143, 131071, 1048575, 2097151, 4194303]
theorem tabbo8 : rtab .any (opsOf Try.f9 8) = Tbo8 := by kernel_rfl
theorem bitsbo8 : waitsOk Tbo8.2 Bbo8 = true := by kernel_rfl
def Tbo17 : Bool × List (List Nat × List Nat) := (true, [([], []), ([0], [0]), ([1], [1]), ([2, 1], [1, 2]), ([1, 3], [1, 3]), ([4, 1], [4]), ([5], [5]), ([5], [5]), ([6, 7, 5, 5], [5, 6, 7]), ([5], [5]), ([9, 8, 5], [5, 9]), ([10], [10]), ([10, 11, 5], [5, 10, 11]), ([8, 12, 5], [5, 8, 12]), ([5, 13], [5, 13]), ([14, 10], [14]), ([15], [15]), ([16, 15, 15], [15, 16]), ([17], [17]), ([18, 17], [17, 18]), ([17, 19, 15], [15, 17, 19]), ([20, 17, 15], [15, 20]), ([21], [21]), ([21], [21]), ([22, 23, 21, 21], [21, 22, 23]), ([21], [21]), ([25, 24, 21], [21, 25]), ([26], [26]), ([26, 27, 21], [21, 26, 27]), ([24, 28, 21], [21, 24, 28]), ([21, 29, 15], [15, 21, 29]), ([15, 30], [15, 30]), ([31, 26], [31]), ([32], [32]), ([33, 32, 32], [32, 33]), ([34, 34, 32], [32, 34]), ([35], [35]), ([35], [35]), ([36, 37, 35, 35], [35, 36, 37]), ([35], [35]), ([35], [35]), ([39, 40, 38, 35], [35, 39, 40]), ([38, 41, 35], [35, 38, 41]), ([35, 42, 32], [32, 35, 42]), ([32, 43], [32, 43])])
def Bbo17 : List Nat := [0, 1, 3, 7, 15, 31, 63, 63, 255, 63, 1023, 2047, 4095, 8191, 16383, 32767, 65535, 131071, 262143, 524287, 1048575, 2097151, 4194303, 4194303, 16777215, 4194303, 67108863, 134217727, 268435455, 536870911, 1073741823, 2147483647, 4294967295, 8589934591, 17179869183, 34359738367, 68719476735, 68719476735, 274877906943, 68719476735, 68719476735, 2199023255551, 4398046511103, 8796093022207, 17592186044415]
theorem tabbo17 : rtab .any (opsOf Try.f9 17) = Tbo17 := by kernel_rfl
theorem bitsbo17 : waitsOk Tbo17.2 Bbo17 = true := by kernel_rfl
theorem no_ {P : Program} {oi : Oper} {ops : Array Oper} {a : Act} {w : World} {K : Act → World → Prop} {Q : Exit → Act → World → Prop} {N : Option Nat} (h : K (a.put N undef) w) (hw : Region.wanted oi (yielded ops a.tmps) = false := by rfl) : if Region.wanted oi (yielded ops a.tmps) = true then Oper.wp P oi a w K Q else K (a.put N undef) w := by
  rw [if_neg (by rw [hw]; decide)]
  exact h
theorem tz_ {P : Program} {ops : Array Oper} {Q : Exit → Act → World → Prop} {md : Region.Mode} {S : World → Prop} {ds : List Nat} {T : Bool × List (List Nat × List Nat)} {B : List Nat} {oi : Oper} {fuel : Nat} {l : Array Bool} {a a' : Act} {w : World} (i N : Nat) (l' : Array Bool) (hT : Aside0 (rtab md ops = T)) (hB : Aside0 (waitsOk T.2 B = true)) (hS : S w) (h : wpAnyLast P md ops Q S ds fuel l' a' w)
    (hi : ops[i]? = some oi := by rfl) (hN : oi.dst = some N := by rfl) (hc : takeW T B ds l.toList l'.toList i = true := by kernel_rfl) (hQ : ∀ c a w, Q (.panic c) (a.put oi.dst undef) w → Q (.panic c) a w := by exact fun _ _ _ h => h)
    (hy : YieldsIf P ops S oi undef a := by exact Or.inr ⟨by rfl, rfl⟩) (ha : a.put (some N) undef = a' := by simp only [Act.put, List.setIfInBounds_toArray, List.set_cons_zero, List.set_cons_succ]; rfl) : wpAnyLast P md ops Q S ds (fuel + 1) l a w := take_ l' hi hN (take_ofW hT.out hB.out hc) hQ hy hS ha h
def fb (n k : Nat) : Array Bool := ((List.range n).map (fun i => k.testBit i)).toArray
def ddP (v0 v1 v2 v3 : Value) (a : List Bool) (n : List (List Int)) (b : List Bool) (m : List (List Int)) : Pc := ⟨fun w fp => (Kd.R Kd.bool 4 w 0 (fun k => k ∈ fp) v0 a ∧ Kd.S (Kd.slice 3 (Kd.int .i64)) 67 w 0 (fun k => k ∈ fp) v1 n ∧ Kd.R Kd.bool 4 w 0 (fun k => k ∈ fp) v2 b ∧ Kd.S (Kd.slice 3 (Kd.int .i64)) 67 w 0 (fun k => k ∈ fp) v3 m) ∧ ∀ k ∈ fp, k < w.heap.size,
  fun ⟨⟨h0, h1, h2, h3⟩, hl⟩ hm => ⟨⟨Kd.R_step h0 (fun k hk _ => hm k hk), Kd.S_step h1 (fun k hk _ => hm k hk), Kd.R_step h2 (fun k hk _ => hm k hk), Kd.S_step h3 (fun k hk _ => hm k hk)⟩, fun k hk => lt_same (hl k hk) (hm k hk)⟩, fun ⟨_, hl⟩ => hl⟩
theorem newDD {w0 w w1 : World} {ps : List Pc} {v0 v1 v2 v3 : Value} {a b : List Bool} {n m : List (List Int)} {o0 o1 o2 o3 : Nat → Prop} (H : Sl w0 w ps) (hb : Below w.heap.size w w1) (h0 : Kd.R Kd.bool 4 w1 w.heap.size o0 v0 a) (h1 : Kd.S (Kd.slice 3 (Kd.int .i64)) 67 w1 w.heap.size o1 v1 n) (h2 : Kd.R Kd.bool 4 w1 w.heap.size o2 v2 b) (h3 : Kd.S (Kd.slice 3 (Kd.int .i64)) 67 w1 w.heap.size o3 v3 m) : Sl w0 w1 (ps ++ [ddP v0 v1 v2 v3 a n b m]) := by
  have hs := hb.size
  have hin : ∀ k, w.heap.size ≤ k → k < w1.heap.size → k ∈ List.range' w.heap.size (w1.heap.size - w.heap.size) := fun k h1 h2 => by
    rw [List.mem_range'_1]
    omega
  refine H.call ⟨hb, List.range' w.heap.size (w1.heap.size - w.heap.size) ++ [], ⟨_, [], rfl, ⟨⟨Kd.R_lower (Kd.R_mono (Kd.R_bound h0) (fun k hk => hin k hk.2.1 hk.2.2.1)) (Nat.zero_le _), Kd.S_lower (Kd.S_mono (Kd.S_bound h1) (fun k hk => hin k hk.2.1 hk.2.2.1)) (Nat.zero_le _), Kd.R_lower (Kd.R_mono (Kd.R_bound h2) (fun k hk => hin k hk.2.1 hk.2.2.1)) (Nat.zero_le _), Kd.S_lower (Kd.S_mono (Kd.S_bound h3) (fun k hk => hin k hk.2.1 hk.2.2.1)) (Nat.zero_le _)⟩, fun k hk => ?_⟩, rfl⟩, ?_, fun k hk => ?_⟩
  · rw [List.mem_range'_1] at hk
    omega
  · rw [List.append_nil]; exact List.nodup_range'
  · rw [List.append_nil, List.mem_range'_1] at hk
    exact hk.1
section
variable {w0 w : World} {ps : List Pc} {v0 v1 v2 v3 : Value} {a b : List Bool} {n m : List (List Int)}
theorem dd (H : Sl w0 w ps) (i : Nat) (hi : ps[i]? = some (ddP v0 v1 v2 v3 a n b m) := by rfl) : ∃ A0 a0 A1 a1 B0 b0 B1 b1, v0 = .slice A0 a.length a0 ∧ v1 = .slice A1 n.length a1 ∧ v2 = .slice B0 b.length b0 ∧ v3 = .slice B1 m.length b1 ∧ a.length ≤ a0 ∧ n.length ≤ a1 ∧ b.length ≤ b0 ∧ m.length ≤ b1 := by
  obtain ⟨f, ⟨⟨h0, h1, h2, h3⟩, hl⟩, hn, hg⟩ := H.get i hi
  obtain ⟨A0, a0, e0, l0, _⟩ := Kd.R_reads h0
  obtain ⟨A1, a1, e1, l1, _⟩ := Kd.S_reads h1
  obtain ⟨B0, b0, e2, l2, _⟩ := Kd.R_reads h2
  obtain ⟨B1, b1, e3, l3, _⟩ := Kd.S_reads h3
  exact ⟨A0, a0, A1, a1, B0, b0, B1, b1, e0, e1, e2, e3, l0, l1, l2, l3⟩
theorem ddC {A0 A1 B0 B1 : Option Addr} {a0 a1 b0 b1 x0 x1 x2 x3 : Nat} (H : Sl w0 w ps) (i : Nat) (hi : ps[i]? = some (ddP (.slice A0 x0 a0) (.slice A1 x1 a1) (.slice B0 x2 b0) (.slice B1 x3 b1) a n b m) := by rfl) : Kd.C Kd.bool w A0 a.length a ∧ Kd.C (Kd.slice 3 (Kd.int .i64)) w A1 n.length n ∧ Kd.C Kd.bool w B0 b.length b ∧ Kd.C (Kd.slice 3 (Kd.int .i64)) w B1 m.length m := by
  obtain ⟨f, ⟨⟨h0, h1, h2, h3⟩, hl⟩, hn, hg⟩ := H.get i hi
  exact ⟨(Kd.R_reads' h0).2.2, (Kd.S_reads' h1).2.2, (Kd.R_reads' h2).2.2, (Kd.S_reads' h3).2.2⟩
end
theorem big_ev (l0 : List Int) (h : l0.length ≤ 140737488351232) : laws_big.f l0 = some (decide ((l0.length : Int) > 1048576)) := by
  first | rfl | (simp [laws_big.f]) | (simp only [laws_big.f]; split <;> simp_all)
set_option maxHeartbeats 400000000 in
set_option maxRecDepth 100000 in
theorem lawBo (A : Option Addr) (c : Nat) (l0 : List Int) (w : World) (hr : Kd.C (Kd.int .u8) w A l0.length l0) (hc : l0.length ≤ c) (h1 : l0.length ≤ 140737488351232) :
    Calls Try.prog 9 #[.slice A l0.length c] w fun e w' => e = .returned (.bool true) ∧ Below w.heap.size w w' := by
  have H := Sl.start w
  have HR := am_ (And.intro hr hc)
  have HB := am_ (big_ev l0 h1)
  have hu := Try.underlying27
  clear hr hc
  by_cases hbig : ((l0.length : Int) > 1048576)
  · have e1 : decide ((l0.length : Int) > 1048576) = true := decide_eq_true hbig
    rw [e1] at HB
    clear h1 e1 hbig
    go_enter Try.func9, Try.ntmps9
    go_wp2_with ((with_reducible refine gate_dst (N := 25) rfl ?_); refine gL_ (some 25) Try.func27 #[.slice A l0.length c] ?_; refine (laws_big.calls A c l0 true _ (Kd.C_below HR.out.1 H.bel) HR.out.2 HB.out).mono ?_; rintro e w2 ⟨rfl, hb⟩; replace H := H.only hb.below; clear hb; refine ⟨_, rfl, ?_⟩)
    go_ret
    exact ⟨rfl, H.bel⟩
  have e1 : decide ((l0.length : Int) > 1048576) = false := decide_eq_false hbig
  rw [e1] at HB
  clear e1 hbig
  obtain ⟨a, n, b, m, kind, hev, ha, hb, hm⟩ := draw_product l0 h1
  obtain ⟨kd, hkd⟩ := hev.rounds
  have HKD := am_ hkd
  obtain ⟨⟨d, dn, okb⟩, hd⟩ : ∃ r, r = pdR a n b m kind := ⟨_, rfl⟩
  have HP1 : Aside0 (impl_ProductDfa.f a n b m kind = some (d, dn, okb)) := ⟨by rw [impl_ProductDfa.f, ← hd]⟩
  have HP2 : Aside0 (spec_ProductDfa.f a n b m kind = some (d, dn, okb)) := ⟨by rw [spec_pd a n b m kind (by omega) (by omega) (by omega) (by omega), ← hd]⟩
  have hlen : d.length ≤ 40 ∧ dn.length ≤ 40 ∧ ∀ r ∈ dn, r.length = 3 := by have h := pdR_len a n b m kind; rw [← hd] at h; exact h
  obtain ⟨x, xn, hevx, hx, hxn⟩ := draw_complement l0 h1
  obtain ⟨kx, hkx⟩ := hevx.rounds
  have HKX := am_ hkx
  obtain ⟨⟨y, yn⟩, hy⟩ : ∃ r, r = cmOf x xn := ⟨_, rfl⟩
  have hylen : y.length ≤ 40 ∧ yn.length ≤ 40 ∧ ∀ r ∈ yn, r.length = 3 := by have h := cmOf_len x xn; rw [← hy] at h; exact h
  obtain ⟨k1, hk1⟩ := (impl_complement x xn).rounds
  obtain ⟨k2, hk2⟩ := (spec_complement x xn (by omega) (by omega)).rounds
  rw [← hy] at hk1 hk2
  have HC1 := am_ hk1
  have HC2 := am_ hk2
  obtain ⟨k3, hk3⟩ := (spec_equal d dn d dn (by have := hlen.1; omega) (by have := hlen.2.1; omega) (fun r hr => by have := hlen.2.2 r hr; omega)).rounds
  obtain ⟨k4, hk4⟩ := (spec_equal y yn y yn (by have := hylen.1; omega) (by have := hylen.2.1; omega) (fun r hr => by have := hylen.2.2 r hr; omega)).rounds
  have et : (decide (d = d) && decide (dn = dn)) = true := by simp
  have et2 : (decide (y = y) && decide (yn = yn)) = true := by simp
  rw [et] at hk3
  rw [et2] at hk4
  have HE1 := am_ hk3
  have HE2 := am_ hk4
  obtain ⟨k5, hk5⟩ := (spec_valid a n (by omega) (by omega)).rounds
  have HV1 := am_ hk5
  obtain ⟨k6, hk6⟩ := (Wu.spec_upto 3).rounds
  rw [if_neg (by decide)] at hk6
  obtain ⟨ws, hws⟩ : ∃ ws, ws = Wu.upto (min (3 : Int) 5).toNat := ⟨_, rfl⟩
  rw [← hws] at hk6
  have HW1 := am_ hk6
  have HWS : Aside0 (ws.length ≤ 1000 ∧ ∀ s ∈ ws, lets (bytesOf s) = true ∧ s.size ≤ 5) := ⟨by rw [hws]; exact ⟨(Wu.len_upto _ (by decide)).1, fun s hs => ⟨(Wu.upto_words _ s hs).1, Nat.le_trans (Wu.upto_words _ s hs).2 (by decide)⟩⟩⟩
  obtain ⟨e, en, q, t, heve, he, ht⟩ := draw_run l0 h1
  obtain ⟨k7, hk7⟩ := heve.rounds
  have HKR := am_ hk7
  obtain ⟨⟨rq, rb⟩, hrun⟩ : ∃ r, r = runOf e en q t := ⟨_, rfl⟩
  obtain ⟨k8, hk8⟩ := (impl_run e en q (by omega) t (by omega)).rounds
  obtain ⟨k9, hk9⟩ := (spec_run e en (by omega) (by omega) q t (by omega)).rounds
  rw [← hrun] at hk8 hk9
  have HR1 := am_ hk8
  have HR2 := am_ hk9
  have HD := am_ hd
  have HY := am_ hy
  have HLN : Aside0 ((a.length ≤ 6 ∧ b.length ≤ 6) ∧ d.length ≤ 40 ∧ x.length ≤ 6 ∧ y.length ≤ 40) := ⟨⟨ha.1, hb⟩, hlen.1, hx, hylen.1⟩
  clear hev hkd hevx hkx hk1 hk2 hk3 hk4 et et2 hk5 hk6 hws heve hk7 hrun hk8 hk9 hd hy hlen hylen ha hb hm hx hxn he ht h1
  go_enter Try.func9, Try.ntmps9
  go_wp2_with (first
    | ((with_reducible refine gate_dst (N := 25) rfl ?_); refine gL_ (some 25) Try.func27 #[.slice A l0.length c] ?_; refine (laws_big.calls A c l0 false _ (Kd.C_below HR.out.1 H.bel) HR.out.2 HB.out).mono ?_; rintro e_ w2 ⟨rfl, hb⟩; replace H := H.only hb.below; clear hb; refine ⟨_, rfl, ?_⟩)
    | ((with_reducible refine gate_dst (N := 28) rfl ?_); refine gL_ (some 28) Try.func37 #[.slice A l0.length c] ?_; refine (spec_DrawProductDfa.calls kd A c l0 a n b m kind _ (Kd.C_below HR.out.1 H.bel) HR.out.2 HKD.out).mono ?_; rintro e_ w2 ⟨v0, v1, v2, v3, rfl, h0, h1, h2, h3, hb⟩; replace H := (newDD H hb h0 h1 h2 h3).nz; clear hb h0 h1 h2 h3; (obtain ⟨A0, a0, A1, a1, B0, b0, B1, b1, rfl, rfl, rfl, rfl, q0, q1, q2, q3⟩ := dd H 0); have Q0 := am_ (And.intro (And.intro q0 q1) (And.intro q2 q3)); clear q0 q1 q2 q3; refine ⟨_, rfl, ?_⟩)
    | ((with_reducible refine gate_dst (N := 3) rfl ?_); refine nw_ H 3 #[.slice none 0 0, .slice none 0 0] 27 rfl ?_; clear H; intro g3 w1 H; replace H := H.nz; have F3 := H.f2 1)
    | ((with_reducible refine gate_store (p := 3) rfl ?_); refine p2_ H 3 1 rfl ?_; clear H F3; intro w1 H; replace H := H.nz; clear F4; have F4 := H.f2 2)
    | ((with_reducible refine gate_dst (N := 4) rfl ?_); refine nw_ H 4 #[.slice none 0 0, .slice none 0 0] 27 rfl ?_; clear H; intro g4 w1 H; replace H := H.nz; clear F3; have F3 := H.f2 1; have F4 := H.f2 2)
    | ((with_reducible refine gate_store (p := 4) rfl ?_); refine p2_ H 4 2 rfl ?_; clear H F4; intro w1 H; replace H := H.nz; have F3 := H.f2 1; have F4 := H.f2 2)
    | ((with_reducible refine gate_dst (N := 36) rfl ?_); refine gL_ (some 36) Try.func20 #[.agg #[.slice A0 a.length a0, .slice A1 n.length a1], .agg #[.slice B0 b.length b0, .slice B1 m.length b1], .int .i64 kind] ?_; refine (impl_ProductDfa.calls A0 a0 a A1 a1 n B0 b0 b B1 b1 m kind d dn okb _ (ddC H 0).1 Q0.out.1.1 (ddC H 0).2.1 Q0.out.1.2 (ddC H 0).2.2.1 Q0.out.2.1 (ddC H 0).2.2.2 Q0.out.2.2 HP1.out).mono ?_; clear F3 F4; rintro e_ w3 ⟨v0, v1, rfl, ho0, ho1, hb⟩; replace H := (H.newD hb ho0 ho1).nz; clear hb ho0 ho1; (obtain ⟨D0, d0, D1, d1, rfl, rfl, l0_, l1_⟩ := H.dv 3); have QD := am_ (And.intro l0_ l1_); clear l0_ l1_; refine ⟨_, rfl, ?_⟩)
    | ((with_reducible refine gate_dst (N := 6) rfl ?_); refine nw_ H 6 #[.slice none 0 0, .slice none 0 0] 27 rfl ?_; clear H; intro g6 w1 H; replace H := H.nz; have F6 := H.f2 4)
    | ((with_reducible refine gate_store (p := 6) rfl ?_); refine p2_ H 6 4 rfl ?_; clear H F6; intro w1 H; replace H := H.nz; have F3 := H.f2 1; have F4 := H.f2 2)
    | ((with_reducible refine gate_dst (N := 43) rfl ?_); refine gL_ (some 43) Try.func19 #[.agg #[.slice A0 a.length a0, .slice A1 n.length a1], .agg #[.slice B0 b.length b0, .slice B1 m.length b1], .int .i64 kind] ?_; refine (spec_ProductDfa.calls A0 a0 a A1 a1 n B0 b0 b B1 b1 m kind d dn okb _ (ddC H 0).1 Q0.out.1.1 (ddC H 0).2.1 Q0.out.1.2 (ddC H 0).2.2.1 Q0.out.2.1 (ddC H 0).2.2.2 Q0.out.2.2 HP2.out).mono ?_; clear F3 F4; rintro e_ w3 ⟨v0, v1, rfl, ho0, ho1, hb⟩; replace H := (H.newD hb ho0 ho1).nz; clear hb ho0 ho1; (obtain ⟨W0, u0, W1, u1, rfl, rfl, l0_, l1_⟩ := H.dv 5); have QW := am_ (And.intro l0_ l1_); clear l0_ l1_; refine ⟨_, rfl, ?_⟩)
    | ((with_reducible refine gate_dst (N := 8) rfl ?_); refine nw_ H 8 #[.slice none 0 0, .slice none 0 0] 27 rfl ?_; clear H; intro g8 w1 H; replace H := H.nz; have F8 := H.f2 6)
    | ((with_reducible refine gate_store (p := 8) rfl ?_); refine p2_ H 8 6 rfl ?_; clear H F8; intro w1 H; replace H := H.nz)
    | ((with_reducible refine gate_dst (N := 47) rfl ?_); refine gL_ (some 47) Try.func38 #[.slice A l0.length c] ?_; refine (spec_DrawComplementDfa.calls kx A c l0 x xn _ (Kd.C_below HR.out.1 H.bel) HR.out.2 HKX.out).mono ?_; rintro e_ w3 ⟨v0, v1, rfl, ho0, ho1, hb⟩; replace H := (H.newD hb ho0 ho1).nz; clear hb ho0 ho1; (obtain ⟨X0, x0, X1, x1, rfl, rfl, l0_, l1_⟩ := H.dv 7); have QX := am_ (And.intro l0_ l1_); clear l0_ l1_; refine ⟨_, rfl, ?_⟩)
    | ((with_reducible refine gate_dst (N := 10) rfl ?_); refine nw_ H 10 #[.slice none 0 0, .slice none 0 0] 27 rfl ?_; clear H; intro g10 w1 H; replace H := H.nz; have F10 := H.f2 8)
    | ((with_reducible refine gate_store (p := 10) rfl ?_); refine p2_ H 10 8 rfl ?_; clear H F10; intro w1 H; replace H := H.nz; have F10 := H.f2 8)
    | ((with_reducible refine gate_dst (N := 49) rfl ?_); refine gL_ (some 49) Try.func15 #[.agg #[.slice X0 x.length x0, .slice X1 xn.length x1]] ?_; refine (impl_ComplementDfa.calls k1 X0 x0 x X1 x1 xn y yn _ (H.dv0 7) QX.out.1 (H.dv1 7) QX.out.2 HC1.out).mono ?_; clear F10; rintro e_ w3 ⟨v0, v1, rfl, ho0, ho1, hb⟩; replace H := (H.newD hb ho0 ho1).nz; clear hb ho0 ho1; (obtain ⟨Y0, y0, Y1, y1, rfl, rfl, l0_, l1_⟩ := H.dv 9); have QY := am_ (And.intro l0_ l1_); clear l0_ l1_; refine ⟨_, rfl, ?_⟩)
    | ((with_reducible refine gate_dst (N := 11) rfl ?_); refine nw_ H 11 #[.slice none 0 0, .slice none 0 0] 27 rfl ?_; clear H; intro g11 w1 H; replace H := H.nz; have F11 := H.f2 10)
    | ((with_reducible refine gate_store (p := 11) rfl ?_); refine p2_ H 11 10 rfl ?_; clear H F11; intro w1 H; replace H := H.nz))
  have F3 := H.f2 1
  have F6 := H.f2 4
  have F8 := H.f2 6
  have F10 := H.f2 8
  have F11 := H.f2 10
  refine start_ (n := 23) (S := (fun w' => w'.cell? ⟨g6, 0, none⟩ = some (.slice D0 d.length d0) ∧ w'.cell? ⟨g6, 1, none⟩ = some (.slice D1 dn.length d1) ∧ w'.cell? ⟨g8, 0, none⟩ = some (.slice W0 d.length u0) ∧ w'.cell? ⟨g8, 1, none⟩ = some (.slice W1 dn.length u1) ∧ w'.cell? ⟨g11, 0, none⟩ = some (.slice Y0 y.length y0) ∧ w'.cell? ⟨g11, 1, none⟩ = some (.slice Y1 yn.length y1) ∧ w'.cell? ⟨g10, 0, none⟩ = some (.slice X0 x.length x0) ∧ w'.cell? ⟨g10, 1, none⟩ = some (.slice X1 xn.length x1) ∧ w'.cell? ⟨g3, 0, none⟩ = some (.slice A0 a.length a0) ∧ w'.cell? ⟨g3, 1, none⟩ = some (.slice A1 n.length a1))) (ds := []) (bl 23 0) (by kernel_rfl) rfl rfl (⟨F6.1.1, F6.2.1, F8.1.1, F8.2.1, F11.1.1, F11.2.1, F10.1.1, F10.2.1, F3.1.1, F3.2.1⟩) (fun hHeld => ?_); refine with_tabW tabbo8 bitsbo8 (fun HT_ HW_ => ?_)
  (try clear F3 F4)
  (try clear F6)
  (try clear F8)
  (try clear F10)
  (try clear F11)
  replace H := H.drew
  refine ph_ 0 50 (fb 23 1) HT_ ?_
  refine ph_ 1 51 (fb 23 3) HT_ ?_
  refine ph_ 2 52 (fb 23 7) HT_ ?_
  refine ph_ 3 53 (fb 23 15) HT_ ?_
  refine th_ 4 54 (fb 23 31) HT_ HW_ hHeld ?_
  refine th_ 5 55 (fb 23 63) HT_ HW_ hHeld ?_
  refine on_ 6 (some 56) (fb 23 127) HT_ (fun K hK => ?_)
  refine gO_ Try.func32 #[.agg #[.slice D0 d.length d0, .slice D1 dn.length d1], .agg #[.slice W0 d.length u0, .slice W1 dn.length u1]] ?_
  refine (spec_EqualDfa.calls k3 D0 d0 d D1 d1 dn W0 u0 d W1 u1 dn true _ (H.dv0 3) QD.out.1 (H.dv1 3) QD.out.2 (H.dv0 5) QW.out.1 (H.dv1 5) QW.out.2 HE1.out).mono ?_
  rintro e_ w3 ⟨rfl, hb⟩
  replace H := H.only hb
  refine ⟨_, rfl, ?_⟩
  refine hK.out _ _ (sb_ hb hHeld) (fun hHeld => ?_)
  clear hK K
  refine nm_ 56 ?_
  refine ph_ 7 57 (fb 23 255) HT_ ?_
  refine ph_ 8 58 (fb 23 511) HT_ ?_
  refine ph_ 9 59 (fb 23 1023) HT_ ?_
  refine th_ 10 60 (fb 23 2047) HT_ HW_ hHeld ?_
  refine th_ 11 61 (fb 23 4095) HT_ HW_ hHeld ?_
  refine on_ 12 (some 62) (fb 23 8191) HT_ (fun K hK => ?_)
  refine gO_ Try.func13 #[.agg #[.slice X0 x.length x0, .slice X1 xn.length x1]] ?_
  refine (spec_ComplementDfa.calls k2 X0 x0 x X1 x1 xn y yn _ (H.dv0 7) QX.out.1 (H.dv1 7) QX.out.2 HC2.out).mono ?_
  rintro e_ w3 ⟨v0, v1, rfl, ho0, ho1, hb⟩
  replace H := (H.newD hb ho0 ho1).nz
  obtain ⟨V0, z0, V1, z1, rfl, rfl, l0_, l1_⟩ := H.dv 11
  have QV := am_ (And.intro l0_ l1_)
  clear l0_ l1_ ho0 ho1
  refine ⟨_, rfl, ?_⟩
  refine hK.out _ _ (sb_ hb hHeld) (fun hHeld => ?_)
  clear hK K
  refine nm_ 62 ?_
  refine on_ 13 (some 63) (fb 23 16383) HT_ (fun K hK => ?_)
  refine gO_ Try.func32 #[.agg #[.slice Y0 y.length y0, .slice Y1 yn.length y1], .agg #[.slice V0 y.length z0, .slice V1 yn.length z1]] ?_
  refine (spec_EqualDfa.calls k4 Y0 y0 y Y1 y1 yn V0 z0 y V1 z1 yn true _ (H.dv0 9) QY.out.1 (H.dv1 9) QY.out.2 (H.dv0 11) QV.out.1 (H.dv1 11) QV.out.2 HE2.out).mono ?_
  rintro e_ w3 ⟨rfl, hb⟩
  replace H := H.only hb
  refine ⟨_, rfl, ?_⟩
  refine hK.out _ _ (sb_ hb hHeld) (fun hHeld => ?_)
  clear hK K
  refine nm_ 63 ?_
  refine ph_ 14 64 (fb 23 32767) HT_ ?_
  refine ph_ 15 65 (fb 23 65535) HT_ ?_
  refine ph_ 16 66 (fb 23 131071) HT_ ?_
  refine th_ 17 67 (fb 23 262143) HT_ HW_ hHeld ?_
  refine th_ 19 69 (fb 23 786431) HT_ HW_ hHeld ?_
  refine on_ 18 (some 68) (fb 23 1048575) HT_ (fun K hK => ?_)
  refine gO_ Try.func39 #[.agg #[.slice A0 a.length a0, .slice A1 n.length a1]] ?_
  refine (impl_IsValidDfa.calls A0 a0 a A1 a1 n (validD a n) _ (ddC H 0).1 Q0.out.1.1 (ddC H 0).2.1 Q0.out.1.2 rfl).mono ?_
  rintro e_ w3 ⟨rfl, hb⟩
  replace H := H.only hb
  refine ⟨_, rfl, ?_⟩
  refine hK.out _ _ (sb_ hb hHeld) (fun hHeld => ?_)
  clear hK K
  refine nm_ 68 ?_
  refine on_ 20 (some 70) (fb 23 2097151) HT_ (fun K hK => ?_)
  refine gO_ Try.func35 #[.agg #[.slice A0 a.length a0, .slice A1 n.length a1]] ?_
  refine (spec_IsValidDfa.calls k5 A0 a0 a A1 a1 n (validD a n) _ (ddC H 0).1 Q0.out.1.1 (ddC H 0).2.1 Q0.out.1.2 HV1.out).mono ?_
  rintro e_ w3 ⟨rfl, hb⟩
  replace H := H.only hb
  refine ⟨_, rfl, ?_⟩
  refine hK.out _ _ (sb_ hb hHeld) (fun hHeld => ?_)
  clear hK K
  refine nm_ 70 ?_
  refine ph_ 21 71 (fb 23 4194303) HT_ ?_
  refine ph_ 22 72 (fb 23 8388607) HT_ ?_
  refine done_ (done_of HT_.out (by kernel_rfl)) ?_
  clear HT_ HW_ hHeld
  (try clear hb)
  (try clear F3)
  (try clear F4)
  go_wp2_with ((with_reducible refine gate_dst (N := 73) rfl ?_); refine gL_ (some 73) Try.func40 #[.int .i64 3] ?_; refine (spec_WordsUpTo.calls k6 3 ws _ HW1.out).mono ?_; rintro e_ w3 ⟨v, rfl, ho, hb⟩; replace H := (H.newR hb ho).nz; clear ho hb; (obtain ⟨WA, wc, rfl, -, -⟩ := (H.rd 12).2); refine ⟨_, rfl, ?_⟩)
  go_loopg [13] ws.length (fun gg v13 w' => ∃ (i : Nat), v13 = .int .i64 (i : Int) ∧ Aside0 (i ≤ ws.length ∧ ws.length ≤ gg + i) ∧ Sl w w' [ddP (.slice A0 a.length a0) (.slice A1 n.length a1) (.slice B0 b.length b0) (.slice B1 m.length b1) a n b m, bx g3 #[.slice A0 a.length a0, .slice A1 n.length a1] 27, bx g4 #[.slice B0 b.length b0, .slice B1 m.length b1] 27, dvP w.heap.size (.slice D0 d.length d0) (.slice D1 dn.length d1) d dn, bx g6 #[.slice D0 d.length d0, .slice D1 dn.length d1] 27, dvP w.heap.size (.slice W0 d.length u0) (.slice W1 dn.length u1) d dn, bx g8 #[.slice W0 d.length u0, .slice W1 dn.length u1] 27, dvP w.heap.size (.slice X0 x.length x0) (.slice X1 xn.length x1) x xn, bx g10 #[.slice X0 x.length x0, .slice X1 xn.length x1] 27, dvP w.heap.size (.slice Y0 y.length y0) (.slice Y1 yn.length y1) y yn, bx g11 #[.slice Y0 y.length y0, .slice Y1 yn.length y1] 27, dvP w.heap.size (.slice V0 y.length z0) (.slice V1 yn.length z1) y yn, rwP Kd.string 9 (.slice WA ws.length wc) ws])
  case atStart => exact ⟨0, rfl, ⟨by omega, by omega⟩, H⟩
  case round =>
    clear H
    obtain ⟨i, rfl, HI, H⟩ := hrel
    by_cases hi : i < ws.length
    · obtain ⟨g1_, rfl⟩ : ∃ q, gk = q + 1 := ⟨gk - 1, by have := HI.out; omega⟩
      obtain ⟨ad, rfl, hcell⟩ := Kd.at_string (H.rd_c 12) (i : Int) (by omega) (by omega)
      rw [Int.toNat_natCast, rdOf_get _ ws i hi] at hcell
      obtain ⟨s, hs⟩ : ∃ s, s = ws[i] := ⟨_, rfl⟩
      have hsw := HWS.out.2 s (by rw [hs]; exact List.getElem_mem hi)
      rw [← hs] at hcell
      have hword : word s = true := by unfold word; rw [hsw.1, Bool.true_and]; exact decide_eq_true (by omega)
      have HL := HLN.out
      obtain ⟨pb, hpb⟩ : ∃ pb, pb = accOf a n s := ⟨_, rfl⟩
      obtain ⟨qb, hqb⟩ : ∃ qb, qb = accOf b m s := ⟨_, rfl⟩
      obtain ⟨db, hdb⟩ : ∃ db, db = accOf d dn s := ⟨_, rfl⟩
      obtain ⟨xb, hxb⟩ : ∃ xb, xb = accOf x xn s := ⟨_, rfl⟩
      obtain ⟨vx, hvx⟩ : ∃ vx, vx = validD x xn := ⟨_, rfl⟩
      obtain ⟨j1, hj1⟩ := (impl_acc a n (by omega) s (by omega)).rounds
      obtain ⟨j2, hj2⟩ := (impl_acc b m (by omega) s (by omega)).rounds
      obtain ⟨j3, hj3⟩ := (impl_acc d dn (by omega) s (by omega)).rounds
      obtain ⟨j4, hj4⟩ := (impl_acc x xn (by omega) s (by omega)).rounds
      obtain ⟨j5, hj5⟩ := (impl_acc y yn (by omega) s (by omega)).rounds
      rw [← hpb] at hj1
      rw [← hqb] at hj2
      rw [← hdb] at hj3
      rw [← hxb] at hj4
      have HPA := am_ hj1
      have HPB := am_ hj2
      have HPD := am_ hj3
      have HPX := am_ hj4
      have HPY : Aside0 (vx = true → impl_AcceptsWord.f j5 y yn s = some (!xb)) := ⟨fun h => by
        have h2 := cm_acc (a := x) (n := xn) (by rw [← hvx]; exact h) hword
        rw [← HY.out] at h2
        rw [hj5, hxb]
        exact congrArg some h2⟩
      have HKI : Aside0 (okb = true → (kind = 6 ∨ kind = 7) ∧ db = bothB kind pb qb) := ⟨fun h => by
        have h2 := pd_acc (a := a) (n := n) (b := b) (m := m) (k := kind) (by rw [← HD.out]; exact h)
        refine ⟨h2.1, ?_⟩
        have h3 := h2.2 s hword
        rw [← HD.out] at h3
        rw [hdb, hpb, hqb]
        exact h3⟩
      have HVX : Aside0 (impl_IsValidDfa.f x xn = some vx) := ⟨by rw [impl_IsValidDfa.f, hvx]⟩
      have p1 : ((i : Int) < (ws.length : Int)) = True := eq_true (by omega)
      have p2 : ((0 : Int) ≤ (i : Int)) = True := eq_true (by omega)
      have HI2 := am_ hi
      have hxx : (xb == !xb) = false := by cases xb <;> rfl
      have F3 := H.f2 1
      have F4 := H.f2 2
      clear hpb hqb hdb hxb hvx hj1 hj2 hj3 hj4 hj5 hword hsw hs hi HL
      go_wp2_with (first
        | ((with_reducible refine gate_dst (N := 86) rfl ?_); refine gL_ (some 86) Try.func34 #[.agg #[.slice A0 a.length a0, .slice A1 n.length a1], .string s] ?_; refine (impl_AcceptsWord.calls j1 A0 a0 a A1 a1 n s pb _ (ddC H 0).1 Q0.out.1.1 (ddC H 0).2.1 Q0.out.1.2 HPA.out).mono ?_; rintro e_ w3 ⟨rfl, hb⟩; replace H := H.only hb; clear hb F3 F4 hcell; have F4 := H.f2 2; refine ⟨_, rfl, ?_⟩)
        | ((with_reducible refine gate_dst (N := 89) rfl ?_); refine gL_ (some 89) Try.func34 #[.agg #[.slice B0 b.length b0, .slice B1 m.length b1], .string s] ?_; refine (impl_AcceptsWord.calls j2 B0 b0 b B1 b1 m s qb _ (ddC H 0).2.2.1 Q0.out.2.1 (ddC H 0).2.2.2 Q0.out.2.2 HPB.out).mono ?_; rintro e_ w3 ⟨rfl, hb⟩; replace H := H.only hb; clear hb F4; refine ⟨_, rfl, ?_⟩))
      have F6 := H.f2 4
      have F10 := H.f2 8
      have F11 := H.f2 10
      cases okb with
      | false =>
        clear HKI
        cases vx with
        | false =>
          refine start_ (n := 45) (S := (fun w' => w'.cell? ⟨g6, 0, none⟩ = some (.slice D0 d.length d0) ∧ w'.cell? ⟨g6, 1, none⟩ = some (.slice D1 dn.length d1) ∧ w'.cell? ⟨g10, 0, none⟩ = some (.slice X0 x.length x0) ∧ w'.cell? ⟨g10, 1, none⟩ = some (.slice X1 xn.length x1) ∧ w'.cell? ⟨g11, 0, none⟩ = some (.slice Y0 y.length y0) ∧ w'.cell? ⟨g11, 1, none⟩ = some (.slice Y1 yn.length y1))) (ds := []) (bl 45 0) (by kernel_rfl) rfl rfl (⟨F6.1.1, F6.2.1, F10.1.1, F10.2.1, F11.1.1, F11.2.1⟩) (fun hHeld => ?_); refine with_tabW tabbo17 bitsbo17 (fun HT_ HW_ => ?_)
          clear F6 F10 F11
          replace H := H.drew
          refine ph_ 0 90 (fb 45 1) HT_ ?_
          refine ph_ 1 91 (fb 45 3) HT_ ?_
          refine pz_ 2 92 (fb 45 7) HT_ ?_
          refine pz_ 3 93 (fb 45 15) HT_ ?_
          refine ph_ 4 94 (fb 45 31) HT_ ?_
          refine ph_ 5 95 (fb 45 63) HT_ ?_
          refine pz_ 7 97 (fb 45 191) HT_ ?_
          refine pz_ 9 99 (fb 45 703) HT_ ?_
          refine tz_ 6 96 (fb 45 767) HT_ HW_ hHeld ?_
          refine on_ 8 (some 98) (fb 45 1023) HT_ (fun K hK => ?_)
          refine no_ ?_
          refine hK.out _ _ hHeld (fun hHeld => ?_)
          clear hK K
          refine nm_ 98 ?_
          refine pz_ 10 100 (fb 45 2047) HT_ ?_
          refine pz_ 11 101 (fb 45 4095) HT_ ?_
          refine pz_ 12 102 (fb 45 8191) HT_ ?_
          refine pz_ 13 103 (fb 45 16383) HT_ ?_
          refine ph_ 14 104 (fb 45 32767) HT_ ?_
          refine ph_ 15 105 (fb 45 65535) HT_ ?_
          refine ph_ 16 106 (fb 45 131071) HT_ ?_
          refine ph_ 17 107 (fb 45 262143) HT_ ?_
          refine pz_ 18 108 (fb 45 524287) HT_ ?_
          refine pz_ 19 109 (fb 45 1048575) HT_ ?_
          refine ph_ 20 110 (fb 45 2097151) HT_ ?_
          refine ph_ 21 111 (fb 45 4194303) HT_ ?_
          refine pz_ 23 113 (fb 45 12582911) HT_ ?_
          refine pz_ 25 115 (fb 45 46137343) HT_ ?_
          refine tz_ 22 112 (fb 45 50331647) HT_ HW_ hHeld ?_
          refine on_ 24 (some 114) (fb 45 67108863) HT_ (fun K hK => ?_)
          refine no_ ?_
          refine hK.out _ _ hHeld (fun hHeld => ?_)
          clear hK K
          refine nm_ 114 ?_
          refine pz_ 26 116 (fb 45 134217727) HT_ ?_
          refine pz_ 27 117 (fb 45 268435455) HT_ ?_
          refine pz_ 28 118 (fb 45 536870911) HT_ ?_
          refine pz_ 29 119 (fb 45 1073741823) HT_ ?_
          refine ph_ 30 120 (fb 45 2147483647) HT_ ?_
          refine ph_ 31 121 (fb 45 4294967295) HT_ ?_
          refine ph_ 32 122 (fb 45 8589934591) HT_ ?_
          refine th_ 33 123 (fb 45 17179869183) HT_ HW_ hHeld ?_
          refine on_ 34 (some 124) (fb 45 34359738367) HT_ (fun K hK => ?_)
          refine gO_ Try.func39 #[.agg #[.slice X0 x.length x0, .slice X1 xn.length x1]] ?_
          refine (impl_IsValidDfa.calls X0 x0 x X1 x1 xn false _ (H.dv0 7) QX.out.1 (H.dv1 7) QX.out.2 HVX.out).mono ?_
          rintro e_ w3 ⟨rfl, hb⟩
          replace H := H.only hb
          refine ⟨_, rfl, ?_⟩
          refine hK.out _ _ (sb_ hb hHeld) (fun hHeld => ?_)
          clear hK K
          refine nm_ 124 ?_
          refine ph_ 35 125 (fb 45 68719476735) HT_ ?_
          refine pz_ 37 127 (fb 45 206158430207) HT_ ?_
          refine pz_ 40 130 (fb 45 1305670057983) HT_ ?_
          refine tz_ 36 126 (fb 45 1374389534719) HT_ HW_ hHeld ?_
          refine tz_ 39 129 (fb 45 1924145348607) HT_ HW_ hHeld ?_
          refine on_ 38 (some 128) (fb 45 2199023255551) HT_ (fun K hK => ?_)
          refine no_ ?_
          refine hK.out _ _ hHeld (fun hHeld => ?_)
          clear hK K
          refine nm_ 128 ?_
          refine on_ 41 (some 131) (fb 45 4398046511103) HT_ (fun K hK => ?_)
          refine no_ ?_
          refine hK.out _ _ hHeld (fun hHeld => ?_)
          clear hK K
          refine nm_ 131 ?_
          refine pz_ 42 132 (fb 45 8796093022207) HT_ ?_
          refine ph_ 43 133 (fb 45 17592186044415) HT_ ?_
          refine ph_ 44 134 (fb 45 35184372088831) HT_ ?_
          refine done_ (done_of HT_.out (by kernel_rfl)) ?_
          clear HT_ HW_ hHeld
          (try clear hb)
          go_wp2
          go_roundg g1_
          case measure => omega
          case rel => exact ⟨i + 1, by first | rfl | (rw [up1 (by have := HWS.out.1; have := HI2.out; omega)]), ⟨by have := HI2.out; omega, by have := HI.out; omega⟩, H⟩
        | true =>
          refine start_ (n := 45) (S := (fun w' => w'.cell? ⟨g6, 0, none⟩ = some (.slice D0 d.length d0) ∧ w'.cell? ⟨g6, 1, none⟩ = some (.slice D1 dn.length d1) ∧ w'.cell? ⟨g10, 0, none⟩ = some (.slice X0 x.length x0) ∧ w'.cell? ⟨g10, 1, none⟩ = some (.slice X1 xn.length x1) ∧ w'.cell? ⟨g11, 0, none⟩ = some (.slice Y0 y.length y0) ∧ w'.cell? ⟨g11, 1, none⟩ = some (.slice Y1 yn.length y1))) (ds := []) (bl 45 0) (by kernel_rfl) rfl rfl (⟨F6.1.1, F6.2.1, F10.1.1, F10.2.1, F11.1.1, F11.2.1⟩) (fun hHeld => ?_); refine with_tabW tabbo17 bitsbo17 (fun HT_ HW_ => ?_)
          clear F6 F10 F11
          replace H := H.drew
          refine ph_ 0 90 (fb 45 1) HT_ ?_
          refine ph_ 1 91 (fb 45 3) HT_ ?_
          refine pz_ 2 92 (fb 45 7) HT_ ?_
          refine pz_ 3 93 (fb 45 15) HT_ ?_
          refine ph_ 4 94 (fb 45 31) HT_ ?_
          refine ph_ 5 95 (fb 45 63) HT_ ?_
          refine pz_ 7 97 (fb 45 191) HT_ ?_
          refine pz_ 9 99 (fb 45 703) HT_ ?_
          refine tz_ 6 96 (fb 45 767) HT_ HW_ hHeld ?_
          refine on_ 8 (some 98) (fb 45 1023) HT_ (fun K hK => ?_)
          refine no_ ?_
          refine hK.out _ _ hHeld (fun hHeld => ?_)
          clear hK K
          refine nm_ 98 ?_
          refine pz_ 10 100 (fb 45 2047) HT_ ?_
          refine pz_ 11 101 (fb 45 4095) HT_ ?_
          refine pz_ 12 102 (fb 45 8191) HT_ ?_
          refine pz_ 13 103 (fb 45 16383) HT_ ?_
          refine ph_ 14 104 (fb 45 32767) HT_ ?_
          refine ph_ 15 105 (fb 45 65535) HT_ ?_
          refine ph_ 16 106 (fb 45 131071) HT_ ?_
          refine ph_ 17 107 (fb 45 262143) HT_ ?_
          refine pz_ 18 108 (fb 45 524287) HT_ ?_
          refine pz_ 19 109 (fb 45 1048575) HT_ ?_
          refine ph_ 20 110 (fb 45 2097151) HT_ ?_
          refine ph_ 21 111 (fb 45 4194303) HT_ ?_
          refine pz_ 23 113 (fb 45 12582911) HT_ ?_
          refine pz_ 25 115 (fb 45 46137343) HT_ ?_
          refine tz_ 22 112 (fb 45 50331647) HT_ HW_ hHeld ?_
          refine on_ 24 (some 114) (fb 45 67108863) HT_ (fun K hK => ?_)
          refine no_ ?_
          refine hK.out _ _ hHeld (fun hHeld => ?_)
          clear hK K
          refine nm_ 114 ?_
          refine pz_ 26 116 (fb 45 134217727) HT_ ?_
          refine pz_ 27 117 (fb 45 268435455) HT_ ?_
          refine pz_ 28 118 (fb 45 536870911) HT_ ?_
          refine pz_ 29 119 (fb 45 1073741823) HT_ ?_
          refine ph_ 30 120 (fb 45 2147483647) HT_ ?_
          refine ph_ 31 121 (fb 45 4294967295) HT_ ?_
          refine ph_ 32 122 (fb 45 8589934591) HT_ ?_
          refine th_ 33 123 (fb 45 17179869183) HT_ HW_ hHeld ?_
          refine on_ 34 (some 124) (fb 45 34359738367) HT_ (fun K hK => ?_)
          refine gO_ Try.func39 #[.agg #[.slice X0 x.length x0, .slice X1 xn.length x1]] ?_
          refine (impl_IsValidDfa.calls X0 x0 x X1 x1 xn true _ (H.dv0 7) QX.out.1 (H.dv1 7) QX.out.2 HVX.out).mono ?_
          rintro e_ w3 ⟨rfl, hb⟩
          replace H := H.only hb
          refine ⟨_, rfl, ?_⟩
          refine hK.out _ _ (sb_ hb hHeld) (fun hHeld => ?_)
          clear hK K
          refine nm_ 124 ?_
          refine ph_ 35 125 (fb 45 68719476735) HT_ ?_
          refine ph_ 37 127 (fb 45 206158430207) HT_ ?_
          refine ph_ 40 130 (fb 45 1305670057983) HT_ ?_
          refine th_ 36 126 (fb 45 1374389534719) HT_ HW_ hHeld ?_
          refine th_ 39 129 (fb 45 1924145348607) HT_ HW_ hHeld ?_
          refine on_ 38 (some 128) (fb 45 2199023255551) HT_ (fun K hK => ?_)
          refine gO_ Try.func34 #[.agg #[.slice X0 x.length x0, .slice X1 xn.length x1], .string s] ?_
          refine (impl_AcceptsWord.calls j4 X0 x0 x X1 x1 xn s xb _ (H.dv0 7) QX.out.1 (H.dv1 7) QX.out.2 HPX.out).mono ?_
          rintro e_ w3 ⟨rfl, hb⟩
          replace H := H.only hb
          refine ⟨_, rfl, ?_⟩
          refine hK.out _ _ (sb_ hb hHeld) (fun hHeld => ?_)
          clear hK K
          refine nm_ 128 ?_
          refine on_ 41 (some 131) (fb 45 4398046511103) HT_ (fun K hK => ?_)
          refine gO_ Try.func34 #[.agg #[.slice Y0 y.length y0, .slice Y1 yn.length y1], .string s] ?_
          refine (impl_AcceptsWord.calls j5 Y0 y0 y Y1 y1 yn s (!xb) _ (H.dv0 9) QY.out.1 (H.dv1 9) QY.out.2 (HPY.out rfl)).mono ?_
          rintro e_ w3 ⟨rfl, hb⟩
          replace H := H.only hb
          refine ⟨_, rfl, ?_⟩
          refine hK.out _ _ (sb_ hb hHeld) (fun hHeld => ?_)
          clear hK K
          refine nm_ 131 ?_
          refine ph_ 42 132 (fb 45 8796093022207) HT_ ?_
          refine ph_ 43 133 (fb 45 17592186044415) HT_ ?_
          refine ph_ 44 134 (fb 45 35184372088831) HT_ ?_
          refine done_ (done_of HT_.out (by kernel_rfl)) ?_
          clear HT_ HW_ hHeld
          (try clear hb)
          go_wp2
          go_roundg g1_
          case measure => omega
          case rel => exact ⟨i + 1, by first | rfl | (rw [up1 (by have := HWS.out.1; have := HI2.out; omega)]), ⟨by have := HI2.out; omega, by have := HI.out; omega⟩, H⟩
      | true =>
        obtain ⟨hk67, hdb⟩ := HKI.out rfl
        clear HKI
        rcases hk67 with rfl | rfl
        · cases pb with
          | false =>
            have hdb2 : db = qb := by rw [hdb]; cases qb <;> rfl
            clear hdb
            rw [hdb2] at HPD
            clear hdb2
            cases vx with
            | false =>
              refine start_ (n := 45) (S := (fun w' => w'.cell? ⟨g6, 0, none⟩ = some (.slice D0 d.length d0) ∧ w'.cell? ⟨g6, 1, none⟩ = some (.slice D1 dn.length d1) ∧ w'.cell? ⟨g10, 0, none⟩ = some (.slice X0 x.length x0) ∧ w'.cell? ⟨g10, 1, none⟩ = some (.slice X1 xn.length x1) ∧ w'.cell? ⟨g11, 0, none⟩ = some (.slice Y0 y.length y0) ∧ w'.cell? ⟨g11, 1, none⟩ = some (.slice Y1 yn.length y1))) (ds := []) (bl 45 0) (by kernel_rfl) rfl rfl (⟨F6.1.1, F6.2.1, F10.1.1, F10.2.1, F11.1.1, F11.2.1⟩) (fun hHeld => ?_); refine with_tabW tabbo17 bitsbo17 (fun HT_ HW_ => ?_)
              clear F6 F10 F11
              replace H := H.drew
              refine ph_ 0 90 (fb 45 1) HT_ ?_
              refine ph_ 1 91 (fb 45 3) HT_ ?_
              refine ph_ 2 92 (fb 45 7) HT_ ?_
              refine ph_ 3 93 (fb 45 15) HT_ ?_
              refine ph_ 4 94 (fb 45 31) HT_ ?_
              refine ph_ 5 95 (fb 45 63) HT_ ?_
              refine ph_ 7 97 (fb 45 191) HT_ ?_
              refine ph_ 9 99 (fb 45 703) HT_ ?_
              refine th_ 6 96 (fb 45 767) HT_ HW_ hHeld ?_
              refine on_ 8 (some 98) (fb 45 1023) HT_ (fun K hK => ?_)
              refine gO_ Try.func34 #[.agg #[.slice D0 d.length d0, .slice D1 dn.length d1], .string s] ?_
              refine (impl_AcceptsWord.calls j3 D0 d0 d D1 d1 dn s qb _ (H.dv0 3) QD.out.1 (H.dv1 3) QD.out.2 HPD.out).mono ?_
              rintro e_ w3 ⟨rfl, hb⟩
              replace H := H.only hb
              refine ⟨_, rfl, ?_⟩
              refine hK.out _ _ (sb_ hb hHeld) (fun hHeld => ?_)
              clear hK K
              refine nm_ 98 ?_
              refine ph_ 10 100 (fb 45 2047) HT_ ?_
              refine ph_ 11 101 (fb 45 4095) HT_ ?_
              refine ph_ 12 102 (fb 45 8191) HT_ ?_
              refine ph_ 13 103 (fb 45 16383) HT_ ?_
              refine ph_ 14 104 (fb 45 32767) HT_ ?_
              refine ph_ 15 105 (fb 45 65535) HT_ ?_
              refine ph_ 16 106 (fb 45 131071) HT_ ?_
              refine ph_ 17 107 (fb 45 262143) HT_ ?_
              refine ph_ 18 108 (fb 45 524287) HT_ ?_
              refine ph_ 19 109 (fb 45 1048575) HT_ ?_
              refine ph_ 20 110 (fb 45 2097151) HT_ ?_
              refine ph_ 21 111 (fb 45 4194303) HT_ ?_
              refine pz_ 23 113 (fb 45 12582911) HT_ ?_
              refine pz_ 25 115 (fb 45 46137343) HT_ ?_
              refine tz_ 22 112 (fb 45 50331647) HT_ HW_ hHeld ?_
              refine on_ 24 (some 114) (fb 45 67108863) HT_ (fun K hK => ?_)
              refine no_ ?_
              refine hK.out _ _ hHeld (fun hHeld => ?_)
              clear hK K
              refine nm_ 114 ?_
              refine pz_ 26 116 (fb 45 134217727) HT_ ?_
              refine pz_ 27 117 (fb 45 268435455) HT_ ?_
              refine pz_ 28 118 (fb 45 536870911) HT_ ?_
              refine pz_ 29 119 (fb 45 1073741823) HT_ ?_
              refine ph_ 30 120 (fb 45 2147483647) HT_ ?_
              refine ph_ 31 121 (fb 45 4294967295) HT_ ?_
              refine ph_ 32 122 (fb 45 8589934591) HT_ ?_
              refine th_ 33 123 (fb 45 17179869183) HT_ HW_ hHeld ?_
              refine on_ 34 (some 124) (fb 45 34359738367) HT_ (fun K hK => ?_)
              refine gO_ Try.func39 #[.agg #[.slice X0 x.length x0, .slice X1 xn.length x1]] ?_
              refine (impl_IsValidDfa.calls X0 x0 x X1 x1 xn false _ (H.dv0 7) QX.out.1 (H.dv1 7) QX.out.2 HVX.out).mono ?_
              rintro e_ w3 ⟨rfl, hb⟩
              replace H := H.only hb
              refine ⟨_, rfl, ?_⟩
              refine hK.out _ _ (sb_ hb hHeld) (fun hHeld => ?_)
              clear hK K
              refine nm_ 124 ?_
              refine ph_ 35 125 (fb 45 68719476735) HT_ ?_
              refine pz_ 37 127 (fb 45 206158430207) HT_ ?_
              refine pz_ 40 130 (fb 45 1305670057983) HT_ ?_
              refine tz_ 36 126 (fb 45 1374389534719) HT_ HW_ hHeld ?_
              refine tz_ 39 129 (fb 45 1924145348607) HT_ HW_ hHeld ?_
              refine on_ 38 (some 128) (fb 45 2199023255551) HT_ (fun K hK => ?_)
              refine no_ ?_
              refine hK.out _ _ hHeld (fun hHeld => ?_)
              clear hK K
              refine nm_ 128 ?_
              refine on_ 41 (some 131) (fb 45 4398046511103) HT_ (fun K hK => ?_)
              refine no_ ?_
              refine hK.out _ _ hHeld (fun hHeld => ?_)
              clear hK K
              refine nm_ 131 ?_
              refine pz_ 42 132 (fb 45 8796093022207) HT_ ?_
              refine ph_ 43 133 (fb 45 17592186044415) HT_ ?_
              refine ph_ 44 134 (fb 45 35184372088831) HT_ ?_
              refine done_ (done_of HT_.out (by kernel_rfl)) ?_
              clear HT_ HW_ hHeld
              (try clear hb)
              go_wp2
              go_roundg g1_
              case measure => omega
              case rel => exact ⟨i + 1, by first | rfl | (rw [up1 (by have := HWS.out.1; have := HI2.out; omega)]), ⟨by have := HI2.out; omega, by have := HI.out; omega⟩, H⟩
            | true =>
              refine start_ (n := 45) (S := (fun w' => w'.cell? ⟨g6, 0, none⟩ = some (.slice D0 d.length d0) ∧ w'.cell? ⟨g6, 1, none⟩ = some (.slice D1 dn.length d1) ∧ w'.cell? ⟨g10, 0, none⟩ = some (.slice X0 x.length x0) ∧ w'.cell? ⟨g10, 1, none⟩ = some (.slice X1 xn.length x1) ∧ w'.cell? ⟨g11, 0, none⟩ = some (.slice Y0 y.length y0) ∧ w'.cell? ⟨g11, 1, none⟩ = some (.slice Y1 yn.length y1))) (ds := []) (bl 45 0) (by kernel_rfl) rfl rfl (⟨F6.1.1, F6.2.1, F10.1.1, F10.2.1, F11.1.1, F11.2.1⟩) (fun hHeld => ?_); refine with_tabW tabbo17 bitsbo17 (fun HT_ HW_ => ?_)
              clear F6 F10 F11
              replace H := H.drew
              refine ph_ 0 90 (fb 45 1) HT_ ?_
              refine ph_ 1 91 (fb 45 3) HT_ ?_
              refine ph_ 2 92 (fb 45 7) HT_ ?_
              refine ph_ 3 93 (fb 45 15) HT_ ?_
              refine ph_ 4 94 (fb 45 31) HT_ ?_
              refine ph_ 5 95 (fb 45 63) HT_ ?_
              refine ph_ 7 97 (fb 45 191) HT_ ?_
              refine ph_ 9 99 (fb 45 703) HT_ ?_
              refine th_ 6 96 (fb 45 767) HT_ HW_ hHeld ?_
              refine on_ 8 (some 98) (fb 45 1023) HT_ (fun K hK => ?_)
              refine gO_ Try.func34 #[.agg #[.slice D0 d.length d0, .slice D1 dn.length d1], .string s] ?_
              refine (impl_AcceptsWord.calls j3 D0 d0 d D1 d1 dn s qb _ (H.dv0 3) QD.out.1 (H.dv1 3) QD.out.2 HPD.out).mono ?_
              rintro e_ w3 ⟨rfl, hb⟩
              replace H := H.only hb
              refine ⟨_, rfl, ?_⟩
              refine hK.out _ _ (sb_ hb hHeld) (fun hHeld => ?_)
              clear hK K
              refine nm_ 98 ?_
              refine ph_ 10 100 (fb 45 2047) HT_ ?_
              refine ph_ 11 101 (fb 45 4095) HT_ ?_
              refine ph_ 12 102 (fb 45 8191) HT_ ?_
              refine ph_ 13 103 (fb 45 16383) HT_ ?_
              refine ph_ 14 104 (fb 45 32767) HT_ ?_
              refine ph_ 15 105 (fb 45 65535) HT_ ?_
              refine ph_ 16 106 (fb 45 131071) HT_ ?_
              refine ph_ 17 107 (fb 45 262143) HT_ ?_
              refine ph_ 18 108 (fb 45 524287) HT_ ?_
              refine ph_ 19 109 (fb 45 1048575) HT_ ?_
              refine ph_ 20 110 (fb 45 2097151) HT_ ?_
              refine ph_ 21 111 (fb 45 4194303) HT_ ?_
              refine pz_ 23 113 (fb 45 12582911) HT_ ?_
              refine pz_ 25 115 (fb 45 46137343) HT_ ?_
              refine tz_ 22 112 (fb 45 50331647) HT_ HW_ hHeld ?_
              refine on_ 24 (some 114) (fb 45 67108863) HT_ (fun K hK => ?_)
              refine no_ ?_
              refine hK.out _ _ hHeld (fun hHeld => ?_)
              clear hK K
              refine nm_ 114 ?_
              refine pz_ 26 116 (fb 45 134217727) HT_ ?_
              refine pz_ 27 117 (fb 45 268435455) HT_ ?_
              refine pz_ 28 118 (fb 45 536870911) HT_ ?_
              refine pz_ 29 119 (fb 45 1073741823) HT_ ?_
              refine ph_ 30 120 (fb 45 2147483647) HT_ ?_
              refine ph_ 31 121 (fb 45 4294967295) HT_ ?_
              refine ph_ 32 122 (fb 45 8589934591) HT_ ?_
              refine th_ 33 123 (fb 45 17179869183) HT_ HW_ hHeld ?_
              refine on_ 34 (some 124) (fb 45 34359738367) HT_ (fun K hK => ?_)
              refine gO_ Try.func39 #[.agg #[.slice X0 x.length x0, .slice X1 xn.length x1]] ?_
              refine (impl_IsValidDfa.calls X0 x0 x X1 x1 xn true _ (H.dv0 7) QX.out.1 (H.dv1 7) QX.out.2 HVX.out).mono ?_
              rintro e_ w3 ⟨rfl, hb⟩
              replace H := H.only hb
              refine ⟨_, rfl, ?_⟩
              refine hK.out _ _ (sb_ hb hHeld) (fun hHeld => ?_)
              clear hK K
              refine nm_ 124 ?_
              refine ph_ 35 125 (fb 45 68719476735) HT_ ?_
              refine ph_ 37 127 (fb 45 206158430207) HT_ ?_
              refine ph_ 40 130 (fb 45 1305670057983) HT_ ?_
              refine th_ 36 126 (fb 45 1374389534719) HT_ HW_ hHeld ?_
              refine th_ 39 129 (fb 45 1924145348607) HT_ HW_ hHeld ?_
              refine on_ 38 (some 128) (fb 45 2199023255551) HT_ (fun K hK => ?_)
              refine gO_ Try.func34 #[.agg #[.slice X0 x.length x0, .slice X1 xn.length x1], .string s] ?_
              refine (impl_AcceptsWord.calls j4 X0 x0 x X1 x1 xn s xb _ (H.dv0 7) QX.out.1 (H.dv1 7) QX.out.2 HPX.out).mono ?_
              rintro e_ w3 ⟨rfl, hb⟩
              replace H := H.only hb
              refine ⟨_, rfl, ?_⟩
              refine hK.out _ _ (sb_ hb hHeld) (fun hHeld => ?_)
              clear hK K
              refine nm_ 128 ?_
              refine on_ 41 (some 131) (fb 45 4398046511103) HT_ (fun K hK => ?_)
              refine gO_ Try.func34 #[.agg #[.slice Y0 y.length y0, .slice Y1 yn.length y1], .string s] ?_
              refine (impl_AcceptsWord.calls j5 Y0 y0 y Y1 y1 yn s (!xb) _ (H.dv0 9) QY.out.1 (H.dv1 9) QY.out.2 (HPY.out rfl)).mono ?_
              rintro e_ w3 ⟨rfl, hb⟩
              replace H := H.only hb
              refine ⟨_, rfl, ?_⟩
              refine hK.out _ _ (sb_ hb hHeld) (fun hHeld => ?_)
              clear hK K
              refine nm_ 131 ?_
              refine ph_ 42 132 (fb 45 8796093022207) HT_ ?_
              refine ph_ 43 133 (fb 45 17592186044415) HT_ ?_
              refine ph_ 44 134 (fb 45 35184372088831) HT_ ?_
              refine done_ (done_of HT_.out (by kernel_rfl)) ?_
              clear HT_ HW_ hHeld
              (try clear hb)
              go_wp2
              go_roundg g1_
              case measure => omega
              case rel => exact ⟨i + 1, by first | rfl | (rw [up1 (by have := HWS.out.1; have := HI2.out; omega)]), ⟨by have := HI2.out; omega, by have := HI.out; omega⟩, H⟩
          | true =>
            have hdb2 : db = true := by rw [hdb]; cases qb <;> rfl
            clear hdb
            rw [hdb2] at HPD
            clear hdb2
            cases vx with
            | false =>
              refine start_ (n := 45) (S := (fun w' => w'.cell? ⟨g6, 0, none⟩ = some (.slice D0 d.length d0) ∧ w'.cell? ⟨g6, 1, none⟩ = some (.slice D1 dn.length d1) ∧ w'.cell? ⟨g10, 0, none⟩ = some (.slice X0 x.length x0) ∧ w'.cell? ⟨g10, 1, none⟩ = some (.slice X1 xn.length x1) ∧ w'.cell? ⟨g11, 0, none⟩ = some (.slice Y0 y.length y0) ∧ w'.cell? ⟨g11, 1, none⟩ = some (.slice Y1 yn.length y1))) (ds := []) (bl 45 0) (by kernel_rfl) rfl rfl (⟨F6.1.1, F6.2.1, F10.1.1, F10.2.1, F11.1.1, F11.2.1⟩) (fun hHeld => ?_); refine with_tabW tabbo17 bitsbo17 (fun HT_ HW_ => ?_)
              clear F6 F10 F11
              replace H := H.drew
              refine ph_ 0 90 (fb 45 1) HT_ ?_
              refine ph_ 1 91 (fb 45 3) HT_ ?_
              refine ph_ 2 92 (fb 45 7) HT_ ?_
              refine ph_ 3 93 (fb 45 15) HT_ ?_
              refine ph_ 4 94 (fb 45 31) HT_ ?_
              refine ph_ 5 95 (fb 45 63) HT_ ?_
              refine ph_ 7 97 (fb 45 191) HT_ ?_
              refine ph_ 9 99 (fb 45 703) HT_ ?_
              refine th_ 6 96 (fb 45 767) HT_ HW_ hHeld ?_
              refine on_ 8 (some 98) (fb 45 1023) HT_ (fun K hK => ?_)
              refine gO_ Try.func34 #[.agg #[.slice D0 d.length d0, .slice D1 dn.length d1], .string s] ?_
              refine (impl_AcceptsWord.calls j3 D0 d0 d D1 d1 dn s true _ (H.dv0 3) QD.out.1 (H.dv1 3) QD.out.2 HPD.out).mono ?_
              rintro e_ w3 ⟨rfl, hb⟩
              replace H := H.only hb
              refine ⟨_, rfl, ?_⟩
              refine hK.out _ _ (sb_ hb hHeld) (fun hHeld => ?_)
              clear hK K
              refine nm_ 98 ?_
              refine ph_ 10 100 (fb 45 2047) HT_ ?_
              refine pz_ 11 101 (fb 45 4095) HT_ ?_
              refine ph_ 12 102 (fb 45 8191) HT_ ?_
              refine ph_ 13 103 (fb 45 16383) HT_ ?_
              refine ph_ 14 104 (fb 45 32767) HT_ ?_
              refine ph_ 15 105 (fb 45 65535) HT_ ?_
              refine ph_ 16 106 (fb 45 131071) HT_ ?_
              refine ph_ 17 107 (fb 45 262143) HT_ ?_
              refine ph_ 18 108 (fb 45 524287) HT_ ?_
              refine ph_ 19 109 (fb 45 1048575) HT_ ?_
              refine ph_ 20 110 (fb 45 2097151) HT_ ?_
              refine ph_ 21 111 (fb 45 4194303) HT_ ?_
              refine pz_ 23 113 (fb 45 12582911) HT_ ?_
              refine pz_ 25 115 (fb 45 46137343) HT_ ?_
              refine tz_ 22 112 (fb 45 50331647) HT_ HW_ hHeld ?_
              refine on_ 24 (some 114) (fb 45 67108863) HT_ (fun K hK => ?_)
              refine no_ ?_
              refine hK.out _ _ hHeld (fun hHeld => ?_)
              clear hK K
              refine nm_ 114 ?_
              refine pz_ 26 116 (fb 45 134217727) HT_ ?_
              refine pz_ 27 117 (fb 45 268435455) HT_ ?_
              refine pz_ 28 118 (fb 45 536870911) HT_ ?_
              refine pz_ 29 119 (fb 45 1073741823) HT_ ?_
              refine ph_ 30 120 (fb 45 2147483647) HT_ ?_
              refine ph_ 31 121 (fb 45 4294967295) HT_ ?_
              refine ph_ 32 122 (fb 45 8589934591) HT_ ?_
              refine th_ 33 123 (fb 45 17179869183) HT_ HW_ hHeld ?_
              refine on_ 34 (some 124) (fb 45 34359738367) HT_ (fun K hK => ?_)
              refine gO_ Try.func39 #[.agg #[.slice X0 x.length x0, .slice X1 xn.length x1]] ?_
              refine (impl_IsValidDfa.calls X0 x0 x X1 x1 xn false _ (H.dv0 7) QX.out.1 (H.dv1 7) QX.out.2 HVX.out).mono ?_
              rintro e_ w3 ⟨rfl, hb⟩
              replace H := H.only hb
              refine ⟨_, rfl, ?_⟩
              refine hK.out _ _ (sb_ hb hHeld) (fun hHeld => ?_)
              clear hK K
              refine nm_ 124 ?_
              refine ph_ 35 125 (fb 45 68719476735) HT_ ?_
              refine pz_ 37 127 (fb 45 206158430207) HT_ ?_
              refine pz_ 40 130 (fb 45 1305670057983) HT_ ?_
              refine tz_ 36 126 (fb 45 1374389534719) HT_ HW_ hHeld ?_
              refine tz_ 39 129 (fb 45 1924145348607) HT_ HW_ hHeld ?_
              refine on_ 38 (some 128) (fb 45 2199023255551) HT_ (fun K hK => ?_)
              refine no_ ?_
              refine hK.out _ _ hHeld (fun hHeld => ?_)
              clear hK K
              refine nm_ 128 ?_
              refine on_ 41 (some 131) (fb 45 4398046511103) HT_ (fun K hK => ?_)
              refine no_ ?_
              refine hK.out _ _ hHeld (fun hHeld => ?_)
              clear hK K
              refine nm_ 131 ?_
              refine pz_ 42 132 (fb 45 8796093022207) HT_ ?_
              refine ph_ 43 133 (fb 45 17592186044415) HT_ ?_
              refine ph_ 44 134 (fb 45 35184372088831) HT_ ?_
              refine done_ (done_of HT_.out (by kernel_rfl)) ?_
              clear HT_ HW_ hHeld
              (try clear hb)
              go_wp2
              go_roundg g1_
              case measure => omega
              case rel => exact ⟨i + 1, by first | rfl | (rw [up1 (by have := HWS.out.1; have := HI2.out; omega)]), ⟨by have := HI2.out; omega, by have := HI.out; omega⟩, H⟩
            | true =>
              refine start_ (n := 45) (S := (fun w' => w'.cell? ⟨g6, 0, none⟩ = some (.slice D0 d.length d0) ∧ w'.cell? ⟨g6, 1, none⟩ = some (.slice D1 dn.length d1) ∧ w'.cell? ⟨g10, 0, none⟩ = some (.slice X0 x.length x0) ∧ w'.cell? ⟨g10, 1, none⟩ = some (.slice X1 xn.length x1) ∧ w'.cell? ⟨g11, 0, none⟩ = some (.slice Y0 y.length y0) ∧ w'.cell? ⟨g11, 1, none⟩ = some (.slice Y1 yn.length y1))) (ds := []) (bl 45 0) (by kernel_rfl) rfl rfl (⟨F6.1.1, F6.2.1, F10.1.1, F10.2.1, F11.1.1, F11.2.1⟩) (fun hHeld => ?_); refine with_tabW tabbo17 bitsbo17 (fun HT_ HW_ => ?_)
              clear F6 F10 F11
              replace H := H.drew
              refine ph_ 0 90 (fb 45 1) HT_ ?_
              refine ph_ 1 91 (fb 45 3) HT_ ?_
              refine ph_ 2 92 (fb 45 7) HT_ ?_
              refine ph_ 3 93 (fb 45 15) HT_ ?_
              refine ph_ 4 94 (fb 45 31) HT_ ?_
              refine ph_ 5 95 (fb 45 63) HT_ ?_
              refine ph_ 7 97 (fb 45 191) HT_ ?_
              refine ph_ 9 99 (fb 45 703) HT_ ?_
              refine th_ 6 96 (fb 45 767) HT_ HW_ hHeld ?_
              refine on_ 8 (some 98) (fb 45 1023) HT_ (fun K hK => ?_)
              refine gO_ Try.func34 #[.agg #[.slice D0 d.length d0, .slice D1 dn.length d1], .string s] ?_
              refine (impl_AcceptsWord.calls j3 D0 d0 d D1 d1 dn s true _ (H.dv0 3) QD.out.1 (H.dv1 3) QD.out.2 HPD.out).mono ?_
              rintro e_ w3 ⟨rfl, hb⟩
              replace H := H.only hb
              refine ⟨_, rfl, ?_⟩
              refine hK.out _ _ (sb_ hb hHeld) (fun hHeld => ?_)
              clear hK K
              refine nm_ 98 ?_
              refine ph_ 10 100 (fb 45 2047) HT_ ?_
              refine pz_ 11 101 (fb 45 4095) HT_ ?_
              refine ph_ 12 102 (fb 45 8191) HT_ ?_
              refine ph_ 13 103 (fb 45 16383) HT_ ?_
              refine ph_ 14 104 (fb 45 32767) HT_ ?_
              refine ph_ 15 105 (fb 45 65535) HT_ ?_
              refine ph_ 16 106 (fb 45 131071) HT_ ?_
              refine ph_ 17 107 (fb 45 262143) HT_ ?_
              refine ph_ 18 108 (fb 45 524287) HT_ ?_
              refine ph_ 19 109 (fb 45 1048575) HT_ ?_
              refine ph_ 20 110 (fb 45 2097151) HT_ ?_
              refine ph_ 21 111 (fb 45 4194303) HT_ ?_
              refine pz_ 23 113 (fb 45 12582911) HT_ ?_
              refine pz_ 25 115 (fb 45 46137343) HT_ ?_
              refine tz_ 22 112 (fb 45 50331647) HT_ HW_ hHeld ?_
              refine on_ 24 (some 114) (fb 45 67108863) HT_ (fun K hK => ?_)
              refine no_ ?_
              refine hK.out _ _ hHeld (fun hHeld => ?_)
              clear hK K
              refine nm_ 114 ?_
              refine pz_ 26 116 (fb 45 134217727) HT_ ?_
              refine pz_ 27 117 (fb 45 268435455) HT_ ?_
              refine pz_ 28 118 (fb 45 536870911) HT_ ?_
              refine pz_ 29 119 (fb 45 1073741823) HT_ ?_
              refine ph_ 30 120 (fb 45 2147483647) HT_ ?_
              refine ph_ 31 121 (fb 45 4294967295) HT_ ?_
              refine ph_ 32 122 (fb 45 8589934591) HT_ ?_
              refine th_ 33 123 (fb 45 17179869183) HT_ HW_ hHeld ?_
              refine on_ 34 (some 124) (fb 45 34359738367) HT_ (fun K hK => ?_)
              refine gO_ Try.func39 #[.agg #[.slice X0 x.length x0, .slice X1 xn.length x1]] ?_
              refine (impl_IsValidDfa.calls X0 x0 x X1 x1 xn true _ (H.dv0 7) QX.out.1 (H.dv1 7) QX.out.2 HVX.out).mono ?_
              rintro e_ w3 ⟨rfl, hb⟩
              replace H := H.only hb
              refine ⟨_, rfl, ?_⟩
              refine hK.out _ _ (sb_ hb hHeld) (fun hHeld => ?_)
              clear hK K
              refine nm_ 124 ?_
              refine ph_ 35 125 (fb 45 68719476735) HT_ ?_
              refine ph_ 37 127 (fb 45 206158430207) HT_ ?_
              refine ph_ 40 130 (fb 45 1305670057983) HT_ ?_
              refine th_ 36 126 (fb 45 1374389534719) HT_ HW_ hHeld ?_
              refine th_ 39 129 (fb 45 1924145348607) HT_ HW_ hHeld ?_
              refine on_ 38 (some 128) (fb 45 2199023255551) HT_ (fun K hK => ?_)
              refine gO_ Try.func34 #[.agg #[.slice X0 x.length x0, .slice X1 xn.length x1], .string s] ?_
              refine (impl_AcceptsWord.calls j4 X0 x0 x X1 x1 xn s xb _ (H.dv0 7) QX.out.1 (H.dv1 7) QX.out.2 HPX.out).mono ?_
              rintro e_ w3 ⟨rfl, hb⟩
              replace H := H.only hb
              refine ⟨_, rfl, ?_⟩
              refine hK.out _ _ (sb_ hb hHeld) (fun hHeld => ?_)
              clear hK K
              refine nm_ 128 ?_
              refine on_ 41 (some 131) (fb 45 4398046511103) HT_ (fun K hK => ?_)
              refine gO_ Try.func34 #[.agg #[.slice Y0 y.length y0, .slice Y1 yn.length y1], .string s] ?_
              refine (impl_AcceptsWord.calls j5 Y0 y0 y Y1 y1 yn s (!xb) _ (H.dv0 9) QY.out.1 (H.dv1 9) QY.out.2 (HPY.out rfl)).mono ?_
              rintro e_ w3 ⟨rfl, hb⟩
              replace H := H.only hb
              refine ⟨_, rfl, ?_⟩
              refine hK.out _ _ (sb_ hb hHeld) (fun hHeld => ?_)
              clear hK K
              refine nm_ 131 ?_
              refine ph_ 42 132 (fb 45 8796093022207) HT_ ?_
              refine ph_ 43 133 (fb 45 17592186044415) HT_ ?_
              refine ph_ 44 134 (fb 45 35184372088831) HT_ ?_
              refine done_ (done_of HT_.out (by kernel_rfl)) ?_
              clear HT_ HW_ hHeld
              (try clear hb)
              go_wp2
              go_roundg g1_
              case measure => omega
              case rel => exact ⟨i + 1, by first | rfl | (rw [up1 (by have := HWS.out.1; have := HI2.out; omega)]), ⟨by have := HI2.out; omega, by have := HI.out; omega⟩, H⟩
        · cases pb with
          | false =>
            have hdb2 : db = false := by rw [hdb]; cases qb <;> rfl
            clear hdb
            rw [hdb2] at HPD
            clear hdb2
            cases vx with
            | false =>
              refine start_ (n := 45) (S := (fun w' => w'.cell? ⟨g6, 0, none⟩ = some (.slice D0 d.length d0) ∧ w'.cell? ⟨g6, 1, none⟩ = some (.slice D1 dn.length d1) ∧ w'.cell? ⟨g10, 0, none⟩ = some (.slice X0 x.length x0) ∧ w'.cell? ⟨g10, 1, none⟩ = some (.slice X1 xn.length x1) ∧ w'.cell? ⟨g11, 0, none⟩ = some (.slice Y0 y.length y0) ∧ w'.cell? ⟨g11, 1, none⟩ = some (.slice Y1 yn.length y1))) (ds := []) (bl 45 0) (by kernel_rfl) rfl rfl (⟨F6.1.1, F6.2.1, F10.1.1, F10.2.1, F11.1.1, F11.2.1⟩) (fun hHeld => ?_); refine with_tabW tabbo17 bitsbo17 (fun HT_ HW_ => ?_)
              clear F6 F10 F11
              replace H := H.drew
              refine ph_ 0 90 (fb 45 1) HT_ ?_
              refine ph_ 1 91 (fb 45 3) HT_ ?_
              refine ph_ 2 92 (fb 45 7) HT_ ?_
              refine ph_ 3 93 (fb 45 15) HT_ ?_
              refine ph_ 4 94 (fb 45 31) HT_ ?_
              refine ph_ 5 95 (fb 45 63) HT_ ?_
              refine pz_ 7 97 (fb 45 191) HT_ ?_
              refine pz_ 9 99 (fb 45 703) HT_ ?_
              refine tz_ 6 96 (fb 45 767) HT_ HW_ hHeld ?_
              refine on_ 8 (some 98) (fb 45 1023) HT_ (fun K hK => ?_)
              refine no_ ?_
              refine hK.out _ _ hHeld (fun hHeld => ?_)
              clear hK K
              refine nm_ 98 ?_
              refine pz_ 10 100 (fb 45 2047) HT_ ?_
              refine pz_ 11 101 (fb 45 4095) HT_ ?_
              refine pz_ 12 102 (fb 45 8191) HT_ ?_
              refine pz_ 13 103 (fb 45 16383) HT_ ?_
              refine ph_ 14 104 (fb 45 32767) HT_ ?_
              refine ph_ 15 105 (fb 45 65535) HT_ ?_
              refine ph_ 16 106 (fb 45 131071) HT_ ?_
              refine ph_ 17 107 (fb 45 262143) HT_ ?_
              refine ph_ 18 108 (fb 45 524287) HT_ ?_
              refine ph_ 19 109 (fb 45 1048575) HT_ ?_
              refine ph_ 20 110 (fb 45 2097151) HT_ ?_
              refine ph_ 21 111 (fb 45 4194303) HT_ ?_
              refine ph_ 23 113 (fb 45 12582911) HT_ ?_
              refine ph_ 25 115 (fb 45 46137343) HT_ ?_
              refine th_ 22 112 (fb 45 50331647) HT_ HW_ hHeld ?_
              refine on_ 24 (some 114) (fb 45 67108863) HT_ (fun K hK => ?_)
              refine gO_ Try.func34 #[.agg #[.slice D0 d.length d0, .slice D1 dn.length d1], .string s] ?_
              refine (impl_AcceptsWord.calls j3 D0 d0 d D1 d1 dn s false _ (H.dv0 3) QD.out.1 (H.dv1 3) QD.out.2 HPD.out).mono ?_
              rintro e_ w3 ⟨rfl, hb⟩
              replace H := H.only hb
              refine ⟨_, rfl, ?_⟩
              refine hK.out _ _ (sb_ hb hHeld) (fun hHeld => ?_)
              clear hK K
              refine nm_ 114 ?_
              refine ph_ 26 116 (fb 45 134217727) HT_ ?_
              refine pz_ 27 117 (fb 45 268435455) HT_ ?_
              refine ph_ 28 118 (fb 45 536870911) HT_ ?_
              refine ph_ 29 119 (fb 45 1073741823) HT_ ?_
              refine ph_ 30 120 (fb 45 2147483647) HT_ ?_
              refine ph_ 31 121 (fb 45 4294967295) HT_ ?_
              refine ph_ 32 122 (fb 45 8589934591) HT_ ?_
              refine th_ 33 123 (fb 45 17179869183) HT_ HW_ hHeld ?_
              refine on_ 34 (some 124) (fb 45 34359738367) HT_ (fun K hK => ?_)
              refine gO_ Try.func39 #[.agg #[.slice X0 x.length x0, .slice X1 xn.length x1]] ?_
              refine (impl_IsValidDfa.calls X0 x0 x X1 x1 xn false _ (H.dv0 7) QX.out.1 (H.dv1 7) QX.out.2 HVX.out).mono ?_
              rintro e_ w3 ⟨rfl, hb⟩
              replace H := H.only hb
              refine ⟨_, rfl, ?_⟩
              refine hK.out _ _ (sb_ hb hHeld) (fun hHeld => ?_)
              clear hK K
              refine nm_ 124 ?_
              refine ph_ 35 125 (fb 45 68719476735) HT_ ?_
              refine pz_ 37 127 (fb 45 206158430207) HT_ ?_
              refine pz_ 40 130 (fb 45 1305670057983) HT_ ?_
              refine tz_ 36 126 (fb 45 1374389534719) HT_ HW_ hHeld ?_
              refine tz_ 39 129 (fb 45 1924145348607) HT_ HW_ hHeld ?_
              refine on_ 38 (some 128) (fb 45 2199023255551) HT_ (fun K hK => ?_)
              refine no_ ?_
              refine hK.out _ _ hHeld (fun hHeld => ?_)
              clear hK K
              refine nm_ 128 ?_
              refine on_ 41 (some 131) (fb 45 4398046511103) HT_ (fun K hK => ?_)
              refine no_ ?_
              refine hK.out _ _ hHeld (fun hHeld => ?_)
              clear hK K
              refine nm_ 131 ?_
              refine pz_ 42 132 (fb 45 8796093022207) HT_ ?_
              refine ph_ 43 133 (fb 45 17592186044415) HT_ ?_
              refine ph_ 44 134 (fb 45 35184372088831) HT_ ?_
              refine done_ (done_of HT_.out (by kernel_rfl)) ?_
              clear HT_ HW_ hHeld
              (try clear hb)
              go_wp2
              go_roundg g1_
              case measure => omega
              case rel => exact ⟨i + 1, by first | rfl | (rw [up1 (by have := HWS.out.1; have := HI2.out; omega)]), ⟨by have := HI2.out; omega, by have := HI.out; omega⟩, H⟩
            | true =>
              refine start_ (n := 45) (S := (fun w' => w'.cell? ⟨g6, 0, none⟩ = some (.slice D0 d.length d0) ∧ w'.cell? ⟨g6, 1, none⟩ = some (.slice D1 dn.length d1) ∧ w'.cell? ⟨g10, 0, none⟩ = some (.slice X0 x.length x0) ∧ w'.cell? ⟨g10, 1, none⟩ = some (.slice X1 xn.length x1) ∧ w'.cell? ⟨g11, 0, none⟩ = some (.slice Y0 y.length y0) ∧ w'.cell? ⟨g11, 1, none⟩ = some (.slice Y1 yn.length y1))) (ds := []) (bl 45 0) (by kernel_rfl) rfl rfl (⟨F6.1.1, F6.2.1, F10.1.1, F10.2.1, F11.1.1, F11.2.1⟩) (fun hHeld => ?_); refine with_tabW tabbo17 bitsbo17 (fun HT_ HW_ => ?_)
              clear F6 F10 F11
              replace H := H.drew
              refine ph_ 0 90 (fb 45 1) HT_ ?_
              refine ph_ 1 91 (fb 45 3) HT_ ?_
              refine ph_ 2 92 (fb 45 7) HT_ ?_
              refine ph_ 3 93 (fb 45 15) HT_ ?_
              refine ph_ 4 94 (fb 45 31) HT_ ?_
              refine ph_ 5 95 (fb 45 63) HT_ ?_
              refine pz_ 7 97 (fb 45 191) HT_ ?_
              refine pz_ 9 99 (fb 45 703) HT_ ?_
              refine tz_ 6 96 (fb 45 767) HT_ HW_ hHeld ?_
              refine on_ 8 (some 98) (fb 45 1023) HT_ (fun K hK => ?_)
              refine no_ ?_
              refine hK.out _ _ hHeld (fun hHeld => ?_)
              clear hK K
              refine nm_ 98 ?_
              refine pz_ 10 100 (fb 45 2047) HT_ ?_
              refine pz_ 11 101 (fb 45 4095) HT_ ?_
              refine pz_ 12 102 (fb 45 8191) HT_ ?_
              refine pz_ 13 103 (fb 45 16383) HT_ ?_
              refine ph_ 14 104 (fb 45 32767) HT_ ?_
              refine ph_ 15 105 (fb 45 65535) HT_ ?_
              refine ph_ 16 106 (fb 45 131071) HT_ ?_
              refine ph_ 17 107 (fb 45 262143) HT_ ?_
              refine ph_ 18 108 (fb 45 524287) HT_ ?_
              refine ph_ 19 109 (fb 45 1048575) HT_ ?_
              refine ph_ 20 110 (fb 45 2097151) HT_ ?_
              refine ph_ 21 111 (fb 45 4194303) HT_ ?_
              refine ph_ 23 113 (fb 45 12582911) HT_ ?_
              refine ph_ 25 115 (fb 45 46137343) HT_ ?_
              refine th_ 22 112 (fb 45 50331647) HT_ HW_ hHeld ?_
              refine on_ 24 (some 114) (fb 45 67108863) HT_ (fun K hK => ?_)
              refine gO_ Try.func34 #[.agg #[.slice D0 d.length d0, .slice D1 dn.length d1], .string s] ?_
              refine (impl_AcceptsWord.calls j3 D0 d0 d D1 d1 dn s false _ (H.dv0 3) QD.out.1 (H.dv1 3) QD.out.2 HPD.out).mono ?_
              rintro e_ w3 ⟨rfl, hb⟩
              replace H := H.only hb
              refine ⟨_, rfl, ?_⟩
              refine hK.out _ _ (sb_ hb hHeld) (fun hHeld => ?_)
              clear hK K
              refine nm_ 114 ?_
              refine ph_ 26 116 (fb 45 134217727) HT_ ?_
              refine pz_ 27 117 (fb 45 268435455) HT_ ?_
              refine ph_ 28 118 (fb 45 536870911) HT_ ?_
              refine ph_ 29 119 (fb 45 1073741823) HT_ ?_
              refine ph_ 30 120 (fb 45 2147483647) HT_ ?_
              refine ph_ 31 121 (fb 45 4294967295) HT_ ?_
              refine ph_ 32 122 (fb 45 8589934591) HT_ ?_
              refine th_ 33 123 (fb 45 17179869183) HT_ HW_ hHeld ?_
              refine on_ 34 (some 124) (fb 45 34359738367) HT_ (fun K hK => ?_)
              refine gO_ Try.func39 #[.agg #[.slice X0 x.length x0, .slice X1 xn.length x1]] ?_
              refine (impl_IsValidDfa.calls X0 x0 x X1 x1 xn true _ (H.dv0 7) QX.out.1 (H.dv1 7) QX.out.2 HVX.out).mono ?_
              rintro e_ w3 ⟨rfl, hb⟩
              replace H := H.only hb
              refine ⟨_, rfl, ?_⟩
              refine hK.out _ _ (sb_ hb hHeld) (fun hHeld => ?_)
              clear hK K
              refine nm_ 124 ?_
              refine ph_ 35 125 (fb 45 68719476735) HT_ ?_
              refine ph_ 37 127 (fb 45 206158430207) HT_ ?_
              refine ph_ 40 130 (fb 45 1305670057983) HT_ ?_
              refine th_ 36 126 (fb 45 1374389534719) HT_ HW_ hHeld ?_
              refine th_ 39 129 (fb 45 1924145348607) HT_ HW_ hHeld ?_
              refine on_ 38 (some 128) (fb 45 2199023255551) HT_ (fun K hK => ?_)
              refine gO_ Try.func34 #[.agg #[.slice X0 x.length x0, .slice X1 xn.length x1], .string s] ?_
              refine (impl_AcceptsWord.calls j4 X0 x0 x X1 x1 xn s xb _ (H.dv0 7) QX.out.1 (H.dv1 7) QX.out.2 HPX.out).mono ?_
              rintro e_ w3 ⟨rfl, hb⟩
              replace H := H.only hb
              refine ⟨_, rfl, ?_⟩
              refine hK.out _ _ (sb_ hb hHeld) (fun hHeld => ?_)
              clear hK K
              refine nm_ 128 ?_
              refine on_ 41 (some 131) (fb 45 4398046511103) HT_ (fun K hK => ?_)
              refine gO_ Try.func34 #[.agg #[.slice Y0 y.length y0, .slice Y1 yn.length y1], .string s] ?_
              refine (impl_AcceptsWord.calls j5 Y0 y0 y Y1 y1 yn s (!xb) _ (H.dv0 9) QY.out.1 (H.dv1 9) QY.out.2 (HPY.out rfl)).mono ?_
              rintro e_ w3 ⟨rfl, hb⟩
              replace H := H.only hb
              refine ⟨_, rfl, ?_⟩
              refine hK.out _ _ (sb_ hb hHeld) (fun hHeld => ?_)
              clear hK K
              refine nm_ 131 ?_
              refine ph_ 42 132 (fb 45 8796093022207) HT_ ?_
              refine ph_ 43 133 (fb 45 17592186044415) HT_ ?_
              refine ph_ 44 134 (fb 45 35184372088831) HT_ ?_
              refine done_ (done_of HT_.out (by kernel_rfl)) ?_
              clear HT_ HW_ hHeld
              (try clear hb)
              go_wp2
              go_roundg g1_
              case measure => omega
              case rel => exact ⟨i + 1, by first | rfl | (rw [up1 (by have := HWS.out.1; have := HI2.out; omega)]), ⟨by have := HI2.out; omega, by have := HI.out; omega⟩, H⟩
          | true =>
            have hdb2 : db = qb := by rw [hdb]; cases qb <;> rfl
            clear hdb
            rw [hdb2] at HPD
            clear hdb2
            cases vx with
            | false =>
              refine start_ (n := 45) (S := (fun w' => w'.cell? ⟨g6, 0, none⟩ = some (.slice D0 d.length d0) ∧ w'.cell? ⟨g6, 1, none⟩ = some (.slice D1 dn.length d1) ∧ w'.cell? ⟨g10, 0, none⟩ = some (.slice X0 x.length x0) ∧ w'.cell? ⟨g10, 1, none⟩ = some (.slice X1 xn.length x1) ∧ w'.cell? ⟨g11, 0, none⟩ = some (.slice Y0 y.length y0) ∧ w'.cell? ⟨g11, 1, none⟩ = some (.slice Y1 yn.length y1))) (ds := []) (bl 45 0) (by kernel_rfl) rfl rfl (⟨F6.1.1, F6.2.1, F10.1.1, F10.2.1, F11.1.1, F11.2.1⟩) (fun hHeld => ?_); refine with_tabW tabbo17 bitsbo17 (fun HT_ HW_ => ?_)
              clear F6 F10 F11
              replace H := H.drew
              refine ph_ 0 90 (fb 45 1) HT_ ?_
              refine ph_ 1 91 (fb 45 3) HT_ ?_
              refine ph_ 2 92 (fb 45 7) HT_ ?_
              refine ph_ 3 93 (fb 45 15) HT_ ?_
              refine ph_ 4 94 (fb 45 31) HT_ ?_
              refine ph_ 5 95 (fb 45 63) HT_ ?_
              refine pz_ 7 97 (fb 45 191) HT_ ?_
              refine pz_ 9 99 (fb 45 703) HT_ ?_
              refine tz_ 6 96 (fb 45 767) HT_ HW_ hHeld ?_
              refine on_ 8 (some 98) (fb 45 1023) HT_ (fun K hK => ?_)
              refine no_ ?_
              refine hK.out _ _ hHeld (fun hHeld => ?_)
              clear hK K
              refine nm_ 98 ?_
              refine pz_ 10 100 (fb 45 2047) HT_ ?_
              refine pz_ 11 101 (fb 45 4095) HT_ ?_
              refine pz_ 12 102 (fb 45 8191) HT_ ?_
              refine pz_ 13 103 (fb 45 16383) HT_ ?_
              refine ph_ 14 104 (fb 45 32767) HT_ ?_
              refine ph_ 15 105 (fb 45 65535) HT_ ?_
              refine ph_ 16 106 (fb 45 131071) HT_ ?_
              refine ph_ 17 107 (fb 45 262143) HT_ ?_
              refine ph_ 18 108 (fb 45 524287) HT_ ?_
              refine ph_ 19 109 (fb 45 1048575) HT_ ?_
              refine ph_ 20 110 (fb 45 2097151) HT_ ?_
              refine ph_ 21 111 (fb 45 4194303) HT_ ?_
              refine ph_ 23 113 (fb 45 12582911) HT_ ?_
              refine ph_ 25 115 (fb 45 46137343) HT_ ?_
              refine th_ 22 112 (fb 45 50331647) HT_ HW_ hHeld ?_
              refine on_ 24 (some 114) (fb 45 67108863) HT_ (fun K hK => ?_)
              refine gO_ Try.func34 #[.agg #[.slice D0 d.length d0, .slice D1 dn.length d1], .string s] ?_
              refine (impl_AcceptsWord.calls j3 D0 d0 d D1 d1 dn s qb _ (H.dv0 3) QD.out.1 (H.dv1 3) QD.out.2 HPD.out).mono ?_
              rintro e_ w3 ⟨rfl, hb⟩
              replace H := H.only hb
              refine ⟨_, rfl, ?_⟩
              refine hK.out _ _ (sb_ hb hHeld) (fun hHeld => ?_)
              clear hK K
              refine nm_ 114 ?_
              refine ph_ 26 116 (fb 45 134217727) HT_ ?_
              refine ph_ 27 117 (fb 45 268435455) HT_ ?_
              refine ph_ 28 118 (fb 45 536870911) HT_ ?_
              refine ph_ 29 119 (fb 45 1073741823) HT_ ?_
              refine ph_ 30 120 (fb 45 2147483647) HT_ ?_
              refine ph_ 31 121 (fb 45 4294967295) HT_ ?_
              refine ph_ 32 122 (fb 45 8589934591) HT_ ?_
              refine th_ 33 123 (fb 45 17179869183) HT_ HW_ hHeld ?_
              refine on_ 34 (some 124) (fb 45 34359738367) HT_ (fun K hK => ?_)
              refine gO_ Try.func39 #[.agg #[.slice X0 x.length x0, .slice X1 xn.length x1]] ?_
              refine (impl_IsValidDfa.calls X0 x0 x X1 x1 xn false _ (H.dv0 7) QX.out.1 (H.dv1 7) QX.out.2 HVX.out).mono ?_
              rintro e_ w3 ⟨rfl, hb⟩
              replace H := H.only hb
              refine ⟨_, rfl, ?_⟩
              refine hK.out _ _ (sb_ hb hHeld) (fun hHeld => ?_)
              clear hK K
              refine nm_ 124 ?_
              refine ph_ 35 125 (fb 45 68719476735) HT_ ?_
              refine pz_ 37 127 (fb 45 206158430207) HT_ ?_
              refine pz_ 40 130 (fb 45 1305670057983) HT_ ?_
              refine tz_ 36 126 (fb 45 1374389534719) HT_ HW_ hHeld ?_
              refine tz_ 39 129 (fb 45 1924145348607) HT_ HW_ hHeld ?_
              refine on_ 38 (some 128) (fb 45 2199023255551) HT_ (fun K hK => ?_)
              refine no_ ?_
              refine hK.out _ _ hHeld (fun hHeld => ?_)
              clear hK K
              refine nm_ 128 ?_
              refine on_ 41 (some 131) (fb 45 4398046511103) HT_ (fun K hK => ?_)
              refine no_ ?_
              refine hK.out _ _ hHeld (fun hHeld => ?_)
              clear hK K
              refine nm_ 131 ?_
              refine pz_ 42 132 (fb 45 8796093022207) HT_ ?_
              refine ph_ 43 133 (fb 45 17592186044415) HT_ ?_
              refine ph_ 44 134 (fb 45 35184372088831) HT_ ?_
              refine done_ (done_of HT_.out (by kernel_rfl)) ?_
              clear HT_ HW_ hHeld
              (try clear hb)
              go_wp2
              go_roundg g1_
              case measure => omega
              case rel => exact ⟨i + 1, by first | rfl | (rw [up1 (by have := HWS.out.1; have := HI2.out; omega)]), ⟨by have := HI2.out; omega, by have := HI.out; omega⟩, H⟩
            | true =>
              refine start_ (n := 45) (S := (fun w' => w'.cell? ⟨g6, 0, none⟩ = some (.slice D0 d.length d0) ∧ w'.cell? ⟨g6, 1, none⟩ = some (.slice D1 dn.length d1) ∧ w'.cell? ⟨g10, 0, none⟩ = some (.slice X0 x.length x0) ∧ w'.cell? ⟨g10, 1, none⟩ = some (.slice X1 xn.length x1) ∧ w'.cell? ⟨g11, 0, none⟩ = some (.slice Y0 y.length y0) ∧ w'.cell? ⟨g11, 1, none⟩ = some (.slice Y1 yn.length y1))) (ds := []) (bl 45 0) (by kernel_rfl) rfl rfl (⟨F6.1.1, F6.2.1, F10.1.1, F10.2.1, F11.1.1, F11.2.1⟩) (fun hHeld => ?_); refine with_tabW tabbo17 bitsbo17 (fun HT_ HW_ => ?_)
              clear F6 F10 F11
              replace H := H.drew
              refine ph_ 0 90 (fb 45 1) HT_ ?_
              refine ph_ 1 91 (fb 45 3) HT_ ?_
              refine ph_ 2 92 (fb 45 7) HT_ ?_
              refine ph_ 3 93 (fb 45 15) HT_ ?_
              refine ph_ 4 94 (fb 45 31) HT_ ?_
              refine ph_ 5 95 (fb 45 63) HT_ ?_
              refine pz_ 7 97 (fb 45 191) HT_ ?_
              refine pz_ 9 99 (fb 45 703) HT_ ?_
              refine tz_ 6 96 (fb 45 767) HT_ HW_ hHeld ?_
              refine on_ 8 (some 98) (fb 45 1023) HT_ (fun K hK => ?_)
              refine no_ ?_
              refine hK.out _ _ hHeld (fun hHeld => ?_)
              clear hK K
              refine nm_ 98 ?_
              refine pz_ 10 100 (fb 45 2047) HT_ ?_
              refine pz_ 11 101 (fb 45 4095) HT_ ?_
              refine pz_ 12 102 (fb 45 8191) HT_ ?_
              refine pz_ 13 103 (fb 45 16383) HT_ ?_
              refine ph_ 14 104 (fb 45 32767) HT_ ?_
              refine ph_ 15 105 (fb 45 65535) HT_ ?_
              refine ph_ 16 106 (fb 45 131071) HT_ ?_
              refine ph_ 17 107 (fb 45 262143) HT_ ?_
              refine ph_ 18 108 (fb 45 524287) HT_ ?_
              refine ph_ 19 109 (fb 45 1048575) HT_ ?_
              refine ph_ 20 110 (fb 45 2097151) HT_ ?_
              refine ph_ 21 111 (fb 45 4194303) HT_ ?_
              refine ph_ 23 113 (fb 45 12582911) HT_ ?_
              refine ph_ 25 115 (fb 45 46137343) HT_ ?_
              refine th_ 22 112 (fb 45 50331647) HT_ HW_ hHeld ?_
              refine on_ 24 (some 114) (fb 45 67108863) HT_ (fun K hK => ?_)
              refine gO_ Try.func34 #[.agg #[.slice D0 d.length d0, .slice D1 dn.length d1], .string s] ?_
              refine (impl_AcceptsWord.calls j3 D0 d0 d D1 d1 dn s qb _ (H.dv0 3) QD.out.1 (H.dv1 3) QD.out.2 HPD.out).mono ?_
              rintro e_ w3 ⟨rfl, hb⟩
              replace H := H.only hb
              refine ⟨_, rfl, ?_⟩
              refine hK.out _ _ (sb_ hb hHeld) (fun hHeld => ?_)
              clear hK K
              refine nm_ 114 ?_
              refine ph_ 26 116 (fb 45 134217727) HT_ ?_
              refine ph_ 27 117 (fb 45 268435455) HT_ ?_
              refine ph_ 28 118 (fb 45 536870911) HT_ ?_
              refine ph_ 29 119 (fb 45 1073741823) HT_ ?_
              refine ph_ 30 120 (fb 45 2147483647) HT_ ?_
              refine ph_ 31 121 (fb 45 4294967295) HT_ ?_
              refine ph_ 32 122 (fb 45 8589934591) HT_ ?_
              refine th_ 33 123 (fb 45 17179869183) HT_ HW_ hHeld ?_
              refine on_ 34 (some 124) (fb 45 34359738367) HT_ (fun K hK => ?_)
              refine gO_ Try.func39 #[.agg #[.slice X0 x.length x0, .slice X1 xn.length x1]] ?_
              refine (impl_IsValidDfa.calls X0 x0 x X1 x1 xn true _ (H.dv0 7) QX.out.1 (H.dv1 7) QX.out.2 HVX.out).mono ?_
              rintro e_ w3 ⟨rfl, hb⟩
              replace H := H.only hb
              refine ⟨_, rfl, ?_⟩
              refine hK.out _ _ (sb_ hb hHeld) (fun hHeld => ?_)
              clear hK K
              refine nm_ 124 ?_
              refine ph_ 35 125 (fb 45 68719476735) HT_ ?_
              refine ph_ 37 127 (fb 45 206158430207) HT_ ?_
              refine ph_ 40 130 (fb 45 1305670057983) HT_ ?_
              refine th_ 36 126 (fb 45 1374389534719) HT_ HW_ hHeld ?_
              refine th_ 39 129 (fb 45 1924145348607) HT_ HW_ hHeld ?_
              refine on_ 38 (some 128) (fb 45 2199023255551) HT_ (fun K hK => ?_)
              refine gO_ Try.func34 #[.agg #[.slice X0 x.length x0, .slice X1 xn.length x1], .string s] ?_
              refine (impl_AcceptsWord.calls j4 X0 x0 x X1 x1 xn s xb _ (H.dv0 7) QX.out.1 (H.dv1 7) QX.out.2 HPX.out).mono ?_
              rintro e_ w3 ⟨rfl, hb⟩
              replace H := H.only hb
              refine ⟨_, rfl, ?_⟩
              refine hK.out _ _ (sb_ hb hHeld) (fun hHeld => ?_)
              clear hK K
              refine nm_ 128 ?_
              refine on_ 41 (some 131) (fb 45 4398046511103) HT_ (fun K hK => ?_)
              refine gO_ Try.func34 #[.agg #[.slice Y0 y.length y0, .slice Y1 yn.length y1], .string s] ?_
              refine (impl_AcceptsWord.calls j5 Y0 y0 y Y1 y1 yn s (!xb) _ (H.dv0 9) QY.out.1 (H.dv1 9) QY.out.2 (HPY.out rfl)).mono ?_
              rintro e_ w3 ⟨rfl, hb⟩
              replace H := H.only hb
              refine ⟨_, rfl, ?_⟩
              refine hK.out _ _ (sb_ hb hHeld) (fun hHeld => ?_)
              clear hK K
              refine nm_ 131 ?_
              refine ph_ 42 132 (fb 45 8796093022207) HT_ ?_
              refine ph_ 43 133 (fb 45 17592186044415) HT_ ?_
              refine ph_ 44 134 (fb 45 35184372088831) HT_ ?_
              refine done_ (done_of HT_.out (by kernel_rfl)) ?_
              clear HT_ HW_ hHeld
              (try clear hb)
              go_wp2
              go_roundg g1_
              case measure => omega
              case rel => exact ⟨i + 1, by first | rfl | (rw [up1 (by have := HWS.out.1; have := HI2.out; omega)]), ⟨by have := HI2.out; omega, by have := HI.out; omega⟩, H⟩
    · have e_ : i = ws.length := by have := HI.out; omega
      subst e_
      have p1 : ((ws.length : Int) < (ws.length : Int)) = False := eq_false (by omega)
      clear hi
      go_wp2_with (first
        | ((with_reducible refine gate_dst (N := 137) rfl ?_); refine gL_ (some 137) Try.func41 #[.slice A l0.length c] ?_; refine (spec_DrawRunDfa.calls k7 A c l0 e en q t _ (Kd.C_below HR.out.1 H.bel) HR.out.2 HKR.out).mono ?_; rintro e_ w3 ⟨v0, v1, rfl, ho0, ho1, hb⟩; replace H := (H.newD hb ho0 ho1).nz; clear hb ho0 ho1; (obtain ⟨E0, e0, E1, e1, rfl, rfl, l0_, l1_⟩ := H.dv 13); have QE := am_ (And.intro l0_ l1_); clear l0_ l1_; refine ⟨_, rfl, ?_⟩)
        | ((with_reducible refine gate_dst (N := 17) rfl ?_); refine nw_ H 17 #[.slice none 0 0, .slice none 0 0] 27 rfl ?_; clear H; intro g17 w1 H; replace H := H.nz; have F17 := H.f2 14)
        | ((with_reducible refine gate_store (p := 17) rfl ?_); refine p2_ H 17 14 rfl ?_; clear H F17; intro w1 H; replace H := H.nz; have F17 := H.f2 14)
        | ((with_reducible refine gate_dst (N := 145) rfl ?_); refine gL_ (some 145) Try.func42 #[.agg #[.slice E0 e.length e0, .slice E1 en.length e1], .int .i64 q, .string t] ?_; refine (impl_RunDfa.calls k8 E0 e0 e E1 e1 en q t rq rb _ (H.dv0 13) QE.out.1 (H.dv1 13) QE.out.2 HR1.out).mono ?_; rintro e_ w3 ⟨rfl, hb⟩; replace H := H.only hb; clear hb F17; have F17 := H.f2 14; refine ⟨_, rfl, ?_⟩)
        | ((with_reducible refine gate_dst (N := 152) rfl ?_); refine gL_ (some 152) Try.func43 #[.agg #[.slice E0 e.length e0, .slice E1 en.length e1], .int .i64 q, .string t] ?_; refine (spec_RunDfa.calls k9 E0 e0 e E1 e1 en q t rq rb _ (H.dv0 13) QE.out.1 (H.dv1 13) QE.out.2 HR2.out).mono ?_; rintro e_ w3 ⟨rfl, hb⟩; replace H := H.only hb; clear hb F17; refine ⟨_, rfl, ?_⟩))
      go_ret
      exact ⟨rfl, H.bel⟩
end Go.Proofs.Ytogamkblkoobkaa.Bo
end
