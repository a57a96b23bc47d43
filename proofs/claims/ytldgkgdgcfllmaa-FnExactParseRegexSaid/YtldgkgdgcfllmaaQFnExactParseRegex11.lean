/- The law FnExactParseRegex holds for every input. No condition. -/
import Derived.Test.YtldgkgdgcfllmaaQFnExactParseRegex2
import Derived.Test.YtldgkgdgcfllmaaQFnExactParseRegex3
import Derived.Test.YtldgkgdgcfllmaaQFnExactParseRegex10
import Derived.Test.YtldgkgdgcfllmaaQFnExactParseRegex4
import Derived.Test.YtldgkgdgcfllmaaQFnExactParseRegex7
import Derived.Test.YtldgkgdgcfllmaaQFnExactParseRegex5
import Derived.Test.YtldgkgdgcfllmaaQFnExactParseRegex6
import Derived.Test.YtldgkgdgcfllmaaQFnExactParseRegex8
import Derived.Test.YtldgkgdgcfllmaaQFnExactParseRegex9
import Derived.Test.YtldgkgdgcfllmaaRows
import Derived.WalkKit
import Derived.ProofKit
import Derived.OpenShut
import Derived.ShutString
import Derived.ChangeOld
import Derived.Below
import Derived.SizedLaws
import Derived.Lib.SmallJoins
import Derived.ChangeSlices
section
namespace Go.Proofs.Ytldgkgdgcfllmaa
open Go.RowKit Go.Shelf Go.Proofs.Ytldgkgdgcfllmaa.P Go.Proofs.Ytldgkgdgcfllmaa.Pl Go.Proofs.Ytldgkgdgcfllmaa.Rg Go.Proofs.YtldgkgdgcfllmaaW.PrintWords Go.Proofs.YtldgkgdgcfllmaaW.PrintLast Go.Proofs.YtldgkgdgcfllmaaW.PrintMore
set_option linter.unusedVariables false
set_option linter.unusedSimpArgs false
mutual
def cnt : Tr → Nat
  | ⟨_, _, cs⟩ => 1 + cnts cs
def cnts : List Tr → Nat
  | [] => 0
  | t :: ts => cnt t + cnts ts
end
mutual
noncomputable def mkT : Tr → Int → Tr
  | ⟨_, _, cs⟩, k => ⟨k, markOf (k + 1), mkL cs (k + 2)⟩
noncomputable def mkL : List Tr → Int → List Tr
  | [], _ => []
  | t :: ts, k => mkT t k :: mkL ts (k + 2 * cnt t)
end
theorem mkT_eq (t : Tr) (k : Int) : mkT t k = ⟨k, markOf (k + 1), mkL t.f2 (k + 2)⟩ := by cases t; rw [mkT]
theorem cnt_eq (t : Tr) : cnt t = 1 + cnts t.f2 := by cases t; rw [cnt]
theorem cnts_snoc : ∀ (l : List Tr) (t : Tr), cnts (l ++ [t]) = cnts l + cnt t
  | [], t => by simp [cnts]
  | x :: l, t => by simp only [List.cons_append, cnts]; rw [cnts_snoc l t]; omega
theorem mkL_snoc : ∀ (l : List Tr) (t : Tr) (k : Int), mkL (l ++ [t]) k = mkL l k ++ [mkT t (k + 2 * cnts l)]
  | [], t, k => by simp [mkL, cnts]
  | x :: l, t, k => by
    simp only [List.cons_append, mkL, cnts]
    rw [mkL_snoc l t, show k + 2 * (cnt x : Int) + 2 * (cnts l : Int) = k + 2 * ((cnt x + cnts l : Nat) : Int) by omega]
theorem mkL_len : ∀ (l : List Tr) (k : Int), (mkL l k).length = l.length
  | [], k => by simp [mkL]
  | x :: l, k => by simp only [mkL, List.length_cons]; rw [mkL_len l]
theorem cnts_take : ∀ (l : List Tr) (i : Nat) (hi : i < l.length), cnts (l.take i) + cnt (l[i]'hi) ≤ cnts l
  | x :: l, 0, _ => by simp [cnts]
  | x :: l, i + 1, hi => by simp only [List.take_succ_cons, cnts, List.getElem_cons_succ]; have := cnts_take l i (by simpa using hi); omega
theorem cnt_pos (t : Tr) : 1 ≤ cnt t := by rw [cnt_eq]; omega
theorem len_cnts : ∀ l : List Tr, l.length ≤ cnts l
  | [] => Nat.le_refl _
  | t :: l => by simp only [cnts, List.length_cons]; have := len_cnts l; have := cnt_pos t; omega
def MarkAt (m : Nat) : Prop := ∀ (ts : List Tr) (k : Int) (v : Value) (w : World) (fp : List Nat), cnts ts ≤ m → 0 ≤ k → k + 2 * cnts ts ≤ 1000000000 → Own w v ts fp → fp.Nodup →
  Calls Try.prog 49 #[v, .int .i64 k] w fun e w' => e = .returned (.int .i64 (k + 2 * cnts ts)) ∧ (∃ fq, Own w' v (mkL ts k) fq ∧ fq.Perm fp) ∧ Same w w' fp
set_option maxHeartbeats 4000000 in
set_option maxRecDepth 100000 in
theorem markAt : ∀ m, MarkAt m := by
  intro m
  induction m using Nat.strongRecOn with
  | _ m ih =>
  intro ts k v w fp hm h0 hk hO hn
  obtain ⟨A, c, rfl, -, -⟩ := Own.reads hO
  have HM := am_ hm
  have HK := am_ (And.intro h0 hk)
  have HN := am_ hn
  have HO := am_ hO
  have HIH := am_ ih
  clear hm h0 hk hO hn ih
  go_enter Try.func49, Try.ntmps49
  go_wp2
  go_loopg [1, 5] ts.length (fun gg v1 v5 wr => ∃ (i : Nat), v5 = .int .i64 (i : Int) ∧ v1 = .int .i64 (k + 2 * cnts (ts.take i)) ∧ Aside0 (i ≤ ts.length ∧ ts.length ≤ gg + i) ∧ Aside0 (∃ fq, Own wr (.slice A ts.length c) (mkL (ts.take i) k ++ ts.drop i) fq ∧ fq.Perm fp) ∧ Aside0 (Same w wr fp))
  case atStart => exact ⟨0, rfl, by simp [cnts], ⟨Nat.zero_le _, by omega⟩, ⟨fp, by simpa [mkL] using HO.out, List.Perm.refl _⟩, ⟨Same.refl _ _⟩⟩
  case round =>
    clear HO
    obtain ⟨i, rfl, rfl, HI, HO, HS⟩ := hrel
    by_cases hi : i < ts.length
    · obtain ⟨g1_, rfl⟩ : ∃ q, gk = q + 1 := ⟨gk - 1, by have := HI.out; omega⟩
      obtain ⟨fq, hO, hP⟩ := HO.out
      obtain ⟨y, hy⟩ : ∃ y, y = ts[i] := ⟨_, rfl⟩
      have hdr : ts.drop i = y :: ts.drop (i + 1) := by rw [hy]; exact List.drop_eq_getElem_cons hi
      have htk : ts.take (i + 1) = ts.take i ++ [y] := by rw [hy]; exact List.take_succ_eq_append_getElem hi
      have hct : cnts (ts.take i) + cnt y ≤ cnts ts := by rw [hy]; exact cnts_take ts i hi
      rw [hdr] at hO
      have hll : (mkL (ts.take i) k).length = i := by rw [mkL_len, List.length_take]; omega
      obtain ⟨g, c', arr, u, fu, fr, e, hg, ⟨ha0, ha1, ha2⟩, hu, hp, hclose⟩ := hO.at_ i (by rw [List.length_append, hll, List.length_cons]; omega)
      have hat : (mkL (ts.take i) k ++ y :: ts.drop (i + 1))[i]'(by rw [List.length_append, hll, List.length_cons]; omega) = y := by
        rw [List.getElem_append_right (by omega)]
        simp [hll]
      rw [hat] at ha0 ha1 hu
      injection e with e1 e2 e3
      subst e1
      subst e3
      obtain ⟨kk, hkk⟩ : ∃ kk, kk = k + 2 * (cnts (ts.take i) : Int) := ⟨_, rfl⟩
      rw [← hkk]
      have hbk : 0 ≤ kk ∧ kk + 2 * (cnt y : Int) ≤ 1000000000 := by have := HK.out; omega
      have hcy := cnt_eq y
      have hnn := (List.Perm.nodup_iff hp).1 ((List.Perm.nodup_iff hP).2 HN.out)
      obtain ⟨n1, n2⟩ := List.nodup_cons.1 hnn
      have hlt : ∀ k ∈ fu ++ fr, k < wr.heap.size := fun k hk => Own.lt hO k (hp.mem_iff.2 (List.mem_cons_of_mem _ hk))
      have w1 : wrap64 (kk + 1) = kk + 1 := w64 (by omega) (by omega)
      have w2 : wrap64 (kk + 1 + 1) = kk + 2 := by rw [w64 (by omega) (by omega)]; omega
      have p1 : ((0 : Int) ≤ (i : Int)) = True := eq_true (by omega)
      have q1 : ((i : Int) < (ts.length : Int)) = True := eq_true (by omega)
      have f0 := (blk_cell hg (i * 3)).trans ha0
      have f1 := blk_frozen hg (i * 3)
      have hclose2 : ∀ (w' : World) (t' : Tr) (u' : Value) (fu' : List Nat), w'.heap[g]? = some (.cells (((arr.setIfInBounds (i * 3) (.int .i64 t'.f0)).setIfInBounds (i * 3 + 1) (.string t'.f1)).setIfInBounds (i * 3 + 2) u') 29 (0, 0)) → (∀ k ∈ fr, w'.heap[k]? = wr.heap[k]?) → Own w' u' t'.f2 fu' → ∃ fp', Own w' (.slice (some ⟨g, 0, none⟩) ts.length c) (mkL (ts.take i) k ++ t' :: ts.drop (i + 1)) fp' ∧ fp'.Perm (g :: (fu' ++ fr)) := fun w' t' u' fu' h1 h2 h3 => by
        have := hclose w' t' u' fu' h1 h2 h3
        rwa [List.set_append_right _ _ (by omega), hll, Nat.sub_self, List.set_cons_zero] at this
      have HA := am_ (And.intro ha0 (And.intro ha1 ha2))
      have HG := am_ hg
      have HU := am_ hu
      have HE := am_ (And.intro hct (And.intro hkk (And.intro hbk (And.intro hcy (And.intro n1 (And.intro n2 hlt))))))
      have HC := am_ (And.intro hp (And.intro hP hclose2))
      have HI2 := am_ (And.intro hi (And.intro htk hdr))
      clear hg ha0 ha1 ha2 hu hat hct hkk hbk n1 n2 hlt hp hP hclose hclose2 hnn hO HO e2 hll hcy htk hdr hy hi
      go_wp2_with (first | (refine sv_ 16 ⟨g, i * 3, none⟩ (.int .i64 kk) rfl ?_; rintro w1_ e1_; clear f0 f1; have HG1 := am_ (blk_set HG.out (i * 3) (.int .i64 kk)); rw [← e1_] at HG1; have HS1 : Aside0 (Same wr w1_ [g]) := ⟨by rw [e1_]; exact Same.set _ _ _ (by simp)⟩; clear e1_) |
        ((with_reducible refine gate_callee (f := 74) rfl ?_); refine gL_ (some 22) Try.func74 #[.int .i64 (wrap64 (kk + 1))] ?_; rw [w1]; refine (markCalls (kk + 1) (by have := HE.out; omega) _).mono ?_; rintro e w2_ ⟨rfl, hb⟩; have HG2 := am_ (blk_below HG1.out hb); have HS2 : Aside0 (Same wr w2_ [g]) := ⟨HS1.out.trans (Same.of hb)⟩; have f0 := (blk_cell HG2.out (i * 3 + 1)).trans ((Array.getElem?_setIfInBounds_ne (by omega)).trans HA.out.2.1); have f1 := blk_frozen HG2.out (i * 3 + 1); clear hb; refine ⟨_, rfl, ?_⟩) |
        (refine sv_ 24 ⟨g, i * 3 + 1, none⟩ (.string (markOf (kk + 1))) rfl ?_; rintro w3_ e1_; clear f0 f1; have HG3 := am_ (blk_set HG2.out (i * 3 + 1) (.string (markOf (kk + 1)))); rw [← e1_] at HG3; have HS3 : Aside0 (Same wr w3_ [g]) := ⟨by rw [e1_]; exact HS2.out.trans (Same.set _ _ _ (by simp))⟩; have f2 := (blk_cell HG3.out (i * 3 + 2)).trans ((Array.getElem?_setIfInBounds_ne (by omega)).trans ((Array.getElem?_setIfInBounds_ne (by omega)).trans HA.out.2.2)); clear e1_) |
        ((with_reducible refine gate_callee (f := 49) rfl ?_); refine gL_ (some 33) Try.func49 #[u, .int .i64 (wrap64 (kk + 1 + 1))] ?_; rw [w2]; refine (HIH.out (cnts y.f2) (by have := HE.out; have := HM.out; omega) y.f2 (kk + 2) u _ fu (Nat.le_refl _) (by have := HE.out; omega) (by have := HE.out; omega) (Own.mv HU.out (fun k hk => HS3.out.block k (HE.out.2.2.2.2.2.2 k (List.mem_append_left _ hk)) (fun e => HE.out.2.2.2.2.1 (by rw [← List.mem_singleton.1 e]; exact List.mem_append_left _ hk)))) (List.nodup_append.1 HE.out.2.2.2.2.2.1).1).mono ?_; rintro e w4_ ⟨rfl, hO4, hS4⟩; have HO4 := am_ hO4; have HS4 := am_ hS4; clear hO4 hS4 f2; refine ⟨_, rfl, ?_⟩))
      go_roundg g1_
      case measure => omega
      case rel =>
        obtain ⟨hct, hkk, hbk, hcy, n1, n2, hlt⟩ := HE.out
        obtain ⟨hp, hP, hclose⟩ := HC.out
        obtain ⟨hi, htk, hdr⟩ := HI2.out
        obtain ⟨fq4, hO4, hP4⟩ := HO4.out
        have hd := (List.nodup_append.1 n2).2.2
        have hg4 : w4_.heap[g]? = some (.cells (((arr.setIfInBounds (i * 3) (.int .i64 (mkT y kk).f0)).setIfInBounds (i * 3 + 1) (.string (mkT y kk).f1)).setIfInBounds (i * 3 + 2) u) 29 (0, 0)) := by
          rw [mkT_eq, set_same ((Array.getElem?_setIfInBounds_ne (by omega)).trans ((Array.getElem?_setIfInBounds_ne (by omega)).trans HA.out.2.2))]
          exact (HS4.out.block g (blk_lt HG3.out) (fun e => n1 (List.mem_append_left _ e))).trans HG3.out
        have hfr : ∀ k ∈ fr, w4_.heap[k]? = wr.heap[k]? := fun k hk => by
          have hl := hlt k (List.mem_append_right _ hk)
          exact (HS4.out.block k (Nat.lt_of_lt_of_le hl HS3.out.size) (fun e => hd k e k hk rfl)).trans (HS3.out.block k hl (fun e => n1 (by rw [← List.mem_singleton.1 e]; exact List.mem_append_right _ hk)))
        obtain ⟨fp', hO', hp'⟩ := hclose w4_ (mkT y kk) u fq4 hg4 hfr (by rw [mkT_eq]; exact hO4)
        refine ⟨i + 1, by rw [up1 (by have := len_cnts ts; have := HK.out; omega)], by rw [htk, cnts_snoc]; congr 1; omega, ⟨by omega, by have := HI.out; omega⟩, ⟨fp', by rw [htk, mkL_snoc, List.append_assoc, ← hkk]; exact hO', ?_⟩, ⟨?_⟩⟩
        · exact hp'.trans ((List.Perm.cons g (List.Perm.append_right fr hP4)).trans (hp.symm.trans hP))
        · have hmem : ∀ k ∈ g :: (fu ++ fr), k ∈ fp := fun k hk => hP.mem_iff.1 (hp.mem_iff.2 hk)
          exact HS.out.trans ((HS3.out.more (fun k hk => hmem k (by rw [List.mem_singleton.1 hk]; exact List.mem_cons_self))).trans (HS4.out.more (fun k hk => hmem k (List.mem_cons_of_mem _ (List.mem_append_left _ hk)))))
    · have e : i = ts.length := by have := HI.out; omega
      subst e
      have q1 : ((ts.length : Int) < (ts.length : Int)) = False := eq_false (by omega)
      rw [List.take_length]
      have HO2 : Aside0 (∃ fq, Own wr (.slice A ts.length c) (mkL ts k) fq ∧ fq.Perm fp) := ⟨by simpa using HO.out⟩
      clear HO hi
      go_wp2
      go_ret
      exact ⟨rfl, HO2.out, HS.out⟩
theorem Sl.mark {w0 w : World} {ps : List Pc} {v : Value} {ts : List Tr} (H : Sl w0 w ps) (i : Nat) (k : Int) (hi : ps[i]? = some (tre v ts)) (h0 : 0 ≤ k) (hk : k + 2 * cnts ts ≤ 1000000000) :
    Calls Try.prog 49 #[v, .int .i64 k] w fun e w' => e = .returned (.int .i64 (k + 2 * cnts ts)) ∧ Sl w0 w' (ps.set i (tre v (mkL ts k))) := by
  obtain ⟨f, hO, hn, hg, hc⟩ := H.opn i hi
  refine (markAt _ ts k v w f (Nat.le_refl _) h0 hk hO hn).mono ?_
  rintro e w' ⟨rfl, ⟨fq, h1, h2⟩, h3⟩
  exact ⟨rfl, hc w' (tre v (mkL ts k)) fq (h3.below H.bel hg) h1 ((List.Perm.nodup_iff h2).2 hn) (fun k hk => Or.inl (h2.mem_iff.1 hk)) h3.block⟩
end Go.Proofs.Ytldgkgdgcfllmaa
end
section
namespace Go.Proofs.Ytldgkgdgcfllmaa
open Go.RowKit Go.Shelf Go.Proofs.Ytldgkgdgcfllmaa.P Go.Proofs.Ytldgkgdgcfllmaa.Pl Go.Proofs.Ytldgkgdgcfllmaa.Rg Go.Proofs.YtldgkgdgcfllmaaW.PrintWords Go.Proofs.YtldgkgdgcfllmaaW.PrintLast Go.Proofs.YtldgkgdgcfllmaaW.PrintMore
set_option linter.unusedVariables false
set_option linter.unusedSimpArgs false
def Th : Bool × List (List Nat × List Nat) := (true, [([], []), ([], []), ([0, 1], [0, 1]), ([2], [2]), ([3], [3]), ([], []), ([5], [5]), ([4, 6], [4, 6])])
def Bh : List Nat := [0, 0, 3, 7, 15, 0, 32, 127]
theorem tabh : rtab .any (opsOf Try.f50 7) = Th := by kernel_rfl
theorem bitsh : waitsOk Th.2 Bh = true := by kernel_rfl
theorem mkL_at : ∀ (l : List Tr) (i : Nat) (hi : i < l.length) (k : Int), (mkL l k)[i]'(by rw [mkL_len]; exact hi) = mkT (l[i]'hi) (k + 2 * (cnts (l.take i) : Nat))
  | x :: l, 0, _, k => by simp [mkL, cnts]
  | x :: l, i + 1, hi, k => by
    simp only [mkL, List.getElem_cons_succ, List.take_succ_cons, cnts]
    rw [mkL_at l i (by simpa using hi), show k + 2 * (cnt x : Int) + 2 * ((cnts (l.take i) : Nat) : Int) = k + 2 * ((cnt x + cnts (l.take i) : Nat) : Int) by omega]
def HeldAt (m : Nat) : Prop := ∀ (ts : List Tr) (k : Int) (A : Option Addr) (c : Nat) (w : World), cnts ts ≤ m → 0 ≤ k → k + 2 * cnts ts ≤ 1000000000 → Kd.C k29 w A (mkL ts k).length (mkL ts k) →
  Calls Try.prog 50 #[.slice A ts.length c, .int .i64 k] w fun e w' => e = .returned (.int .i64 (k + 2 * cnts ts)) ∧ Below w.heap.size w w'
set_option maxHeartbeats 4000000 in
set_option maxRecDepth 100000 in
theorem heldAt : ∀ m, HeldAt m := by
  intro m
  induction m using Nat.strongRecOn with
  | _ m ih =>
  intro ts k A c w hm h0 hk hC
  have HM := am_ hm
  have HK := am_ (And.intro h0 hk)
  have HC := am_ hC
  have HIH := am_ ih
  clear hm h0 hk hC ih
  go_enter Try.func50, Try.ntmps50
  go_wp2
  go_loopg [1, 5] ts.length (fun gg v1 v5 wr => ∃ (i : Nat), v5 = .int .i64 (i : Int) ∧ v1 = .int .i64 (k + 2 * cnts (ts.take i)) ∧ Aside0 (i ≤ ts.length ∧ ts.length ≤ gg + i) ∧ Aside0 (Below w.heap.size w wr))
  case atStart => exact ⟨0, rfl, by simp [cnts], ⟨Nat.zero_le _, by omega⟩, ⟨Below.refl _ _⟩⟩
  case round =>
    obtain ⟨i, rfl, rfl, HI, HB⟩ := hrel
    by_cases hi : i < ts.length
    · obtain ⟨g1_, rfl⟩ : ∃ q, gk = q + 1 := ⟨gk - 1, by have := HI.out; omega⟩
      obtain ⟨ad, A2, c2, z, rfl, ⟨hz, -, -⟩, hx, hl2, hC2⟩ := kid_ HC.out i (by rw [mkL_len]; exact hi)
      rw [mkL_at ts i hi] at hz
      obtain ⟨y, hy⟩ : ∃ y, y = ts[i] := ⟨_, rfl⟩
      obtain ⟨kk, hkk⟩ : ∃ kk, kk = k + 2 * (cnts (ts.take i) : Int) := ⟨_, rfl⟩
      rw [← hy, ← hkk, mkT_eq] at hz
      subst hz
      rw [← hkk]
      have htk : ts.take (i + 1) = ts.take i ++ [y] := by rw [hy]; exact List.take_succ_eq_append_getElem hi
      have hct : cnts (ts.take i) + cnt y ≤ cnts ts := by rw [hy]; exact cnts_take ts i hi
      have hcy := cnt_eq y
      have hln := len_cnts ts
      have hbk : 0 ≤ kk ∧ kk + 2 * (cnt y : Int) ≤ 1000000000 := by have := HK.out; omega
      have w1 : wrap64 (kk + 1) = kk + 1 := w64 (by omega) (by omega)
      have w2 : wrap64 (kk + 1 + 1) = kk + 2 := by rw [w64 (by omega) (by omega)]; omega
      have p1 : ((0 : Int) ≤ (i : Int)) = True := eq_true (by omega)
      have q1 : ((i : Int) < (ts.length : Int)) = True := eq_true (by omega)
      have q2 : decide (kk + 2 + 2 * (cnts y.f2 : Int) < 0) = false := decide_eq_false (by omega)
      have q3 : ((markOf (kk + 1)).toList != (markOf (kk + 1)).toList) = false := by simp
      dsimp only at hx hl2 hC2
      rw [mkL_len] at hx hl2
      have HX := am_ hx
      have HC2 := am_ hC2
      have HE := am_ (And.intro hct (And.intro hkk (And.intro hbk (And.intro hcy (And.intro htk (And.intro hi hln))))))
      replace hx := And.imp (pw_cell_below HB.out) (And.imp (pw_cell_below HB.out) (pw_cell_below HB.out)) hx
      clear hl2 hC2 hct hkk hbk hcy htk hi hln hy
      go_wp2
      refine start_ (n := 8) (S := (fun w' => w'.cell? ⟨(ad.add (i * 3)).block, (ad.add (i * 3)).off + 1, none⟩ = some (.string (markOf (kk + 1))))) (ds := []) (bl 8 0) (by kernel_rfl) rfl rfl (hx.2.1) (fun hHeld => ?_); refine with_tabW tabh bitsh (fun HT_ HW_ => ?_)
      clear hx
      replace HB := am_ (below_drew1 HB.out)
      refine ph_ 0 21 (bl 8 1) HT_ ?_
      refine ph_ 1 22 (bl 8 3) HT_ ?_
      refine ph_ 2 23 (bl 8 7) HT_ ?_
      refine ph_ 3 24 (bl 8 15) HT_ ?_
      refine ph_ 5 26 (bl 8 47) HT_ ?_
      refine th_ 4 25 (bl 8 63) HT_ HW_ hHeld ?_
      refine on_ 6 (some 27) (bl 8 127) HT_ (fun K hK => ?_)
      refine gO_ Try.func74 #[.int .i64 (kk + 1)] ?_
      refine (markCalls (kk + 1) (by have := HE.out; omega) _).mono ?_
      rintro e w2_ ⟨rfl, hb⟩
      replace HB := am_ (below_step HB.out hb)
      refine ⟨_, rfl, ?_⟩
      refine hK.out _ _ ((pw_cell_below hb hHeld)) (fun hHeld => ?_)
      clear hK K
      refine nm_ 27 ?_
      refine ph_ 7 28 (bl 8 255) HT_ ?_
      refine done_ (done_of HT_.out (by kernel_rfl)) ?_
      clear HT_ HW_ hHeld hb
      have hx := HX.out
      replace hx := And.imp (pw_cell_below HB.out) (And.imp (pw_cell_below HB.out) (pw_cell_below HB.out)) hx
      go_wp2_with ((with_reducible refine gate_callee (f := 50) rfl ?_); refine gL_ (some 37) Try.func50 #[.slice A2 y.f2.length c2, .int .i64 (wrap64 (kk + 1 + 1))] ?_; rw [w2]; refine (HIH.out (cnts y.f2) (by have := HE.out; have := HM.out; omega) y.f2 (kk + 2) A2 c2 _ (Nat.le_refl _) (by have := HE.out; omega) (by have := HE.out; omega) (Kd.C_below HC2.out HB.out)).mono ?_; rintro e w4_ ⟨rfl, hb⟩; replace HB := am_ (below_step HB.out hb); clear hb hx; refine ⟨_, rfl, ?_⟩)
      go_roundg g1_
      case measure => omega
      case rel =>
        obtain ⟨hct, hkk, hbk, hcy, htk, hi, hln⟩ := HE.out
        exact ⟨i + 1, by rw [up1 (by have := HK.out; omega)], by rw [htk, cnts_snoc]; congr 1; omega, ⟨by omega, by have := HI.out; omega⟩, HB⟩
    · have e : i = ts.length := by have := HI.out; omega
      subst e
      have q1 : ((ts.length : Int) < (ts.length : Int)) = False := eq_false (by omega)
      rw [List.take_length]
      clear hi
      go_wp2
      go_ret
      exact ⟨rfl, HB.out⟩
end Go.Proofs.Ytldgkgdgcfllmaa
end
section
namespace Go.Proofs.Ytldgkgdgcfllmaa
open Go.RowKit Go.Shelf Go.Proofs.Ytldgkgdgcfllmaa.P Go.Proofs.Ytldgkgdgcfllmaa.Pl Go.Proofs.Ytldgkgdgcfllmaa.Rg Go.Proofs.Ytldgkgdgcfllmaa.Rk Go.Proofs.YtldgkgdgcfllmaaW.PrintWords Go.Proofs.YtldgkgdgcfllmaaW.PrintLast Go.Proofs.YtldgkgdgcfllmaaW.PrintMore
set_option linter.unusedVariables false
set_option linter.unusedSimpArgs false
theorem eqCalls (t : Tr) (ht : Thin t) (A1 A2 : Option Addr) (c1 c2 : Nat) (w : World) (h1 : Kd.C k29 w A1 t.f2.length t.f2) (hc1 : t.f2.length ≤ c1) (h2 : Kd.C k29 w A2 t.f2.length t.f2) (hc2 : t.f2.length ≤ c2) :
    Calls Try.prog 16 #[tv t A1 c1, tv t A2 c2] w fun e w' => e = .returned (.bool true) ∧ Below w.heap.size w w' := by
  obtain ⟨k, hk⟩ := (eq_tree t ht).rounds
  exact laws_eqRegex.calls k t.f0 t.f1 A1 c1 t.f2 t.f0 t.f1 A2 c2 t.f2 true w h1 hc1 h2 hc2 hk
theorem Sl.cut {w0 w : World} {ps qs : List Pc} (H : Sl w0 w (ps ++ qs)) : Sl w0 w ps := by
  have := H.pre ps.length
  rwa [List.take_left] at this
set_option maxRecDepth 100000 in
theorem mkCall {w0 w : World} {ps : List Pc} {v : Value} {ts : List Tr} (H : Sl w0 w ps) (i : Nat) (a : Int) (b : ByteArray) (hi : ps[i]? = some (tre v ts)) (hk : cnts ts ≤ 400000000) :
    Calls Try.prog 23 #[.agg #[.int .i64 a, .string b, v], .int .i64 1] w fun e w' => e = .returned (.int .i64 (1 + 2 * cnts ts)) ∧ Sl w0 w' (ps.set i (tre v (mkL ts 1))) := by
  have hl := (List.getElem?_eq_some_iff.1 hi).1
  obtain ⟨A, c, rfl, -, -⟩ := H.tv i hi
  have hu := Try.underlying29
  go_enter Try.func23, Try.ntmps23
  go_wp2_with (first | (refine nw_ H 2 #[.int .i64 a, .string b, .slice A ts.length c] 29 rfl ?_; clear H; intro g1 w1 H; have F : w1.cell? ⟨g1, 2, none⟩ = some (.slice A ts.length c) := (blk_cell (H.blk ps.length List.getElem?_concat_length) 2).trans rfl) |
    ((with_reducible refine gate_callee (f := 49) rfl ?_); refine gL_ (some 8) Try.func49 #[.slice A ts.length c, .int .i64 1] ?_; refine (H.mark i 1 (by rw [List.getElem?_append_left hl]; exact hi) (by omega) (by omega)).mono ?_; rintro e w2 ⟨rfl, H2⟩; clear H F; refine ⟨_, rfl, ?_⟩))
  go_ret
  refine ⟨rfl, ?_⟩
  rw [List.set_append_left _ _ hl] at H2
  exact H2.cut
set_option maxRecDepth 100000 in
theorem heCall {w : World} {A : Option Addr} {c : Nat} {ts : List Tr} (a : Int) (b : ByteArray) (hC : Kd.C k29 w A (mkL ts 1).length (mkL ts 1)) (hk : cnts ts ≤ 400000000) :
    Calls Try.prog 24 #[.agg #[.int .i64 a, .string b, .slice A ts.length c], .int .i64 1] w fun e w' => e = .returned (.int .i64 (1 + 2 * cnts ts)) ∧ Below w.heap.size w w' := by
  have H := Sl.start w
  have hu := Try.underlying29
  have HC := am_ hC
  have q1 : decide (1 + 2 * (cnts ts : Int) < 0) = false := decide_eq_false (by omega)
  clear hC
  go_enter Try.func24, Try.ntmps24
  go_wp2_with (first | (refine nw_ H 2 #[.int .i64 a, .string b, .slice A ts.length c] 29 rfl ?_; clear H; intro g1 w1 H; have F0 := H.f3 0) |
    ((with_reducible refine gate_callee (f := 50) rfl ?_); refine gL_ (some 8) Try.func50 #[.slice A ts.length c, .int .i64 1] ?_; refine (heldAt (cnts ts) ts 1 A c _ (Nat.le_refl _) (by omega) (by omega) (Kd.C_below HC.out H.bel)).mono ?_; rintro e w2 ⟨rfl, hb⟩; replace H := H.only hb; clear F0 hb; refine ⟨_, rfl, ?_⟩))
  go_ret
  exact ⟨rfl, H.bel⟩
theorem Sl.nf {w0 w : World} {ps qs : List Pc} (H : Sl w0 w ps) (e : ps = qs := by simp only [List.cons_append, List.nil_append, List.set_cons_zero, List.set_cons_succ]; rfl) : Sl w0 w qs := e ▸ H
theorem Sl.rd {w0 w : World} {ps : List Pc} {A : Option Addr} {n c : Nat} {ts : List Tr} (H : Sl w0 w ps) (i : Nat) (hi : ps[i]? = some (tre (.slice A n c) ts) := by rfl) : ts.length ≤ c ∧ Kd.C k29 w A ts.length ts := by
  obtain ⟨A', c', e, h1, h2⟩ := H.tv i hi
  injection e with e1 e2 e3
  subst e1
  subst e3
  exact ⟨h1, h2⟩
end Go.Proofs.Ytldgkgdgcfllmaa
end
section
namespace Go.Proofs.Ytldgkgdgcfllmaa
open Go.RowKit Go.Shelf Go.Proofs.Ytldgkgdgcfllmaa.P Go.Proofs.Ytldgkgdgcfllmaa.Pl Go.Proofs.Ytldgkgdgcfllmaa.Rg Go.Proofs.Ytldgkgdgcfllmaa.Rk Go.Proofs.YtldgkgdgcfllmaaW.PrintWords Go.Proofs.YtldgkgdgcfllmaaW.PrintLast Go.Proofs.YtldgkgdgcfllmaaW.PrintMore
set_option linter.unusedVariables false
set_option linter.unusedSimpArgs false
theorem thin_tr : ∀ y : Rx, Lt y → Thin (tr y) ∧ cnt (tr y) = sz y
  | .none, _ => ⟨Thin.mk _ (by simp [tr]) (by show (⟨#[]⟩ : ByteArray).size ≤ _; decide) (fun y hy => by simp [tr] at hy), by simp [tr, cnt, cnts, sz]⟩
  | .empty, _ => ⟨Thin.mk _ (by simp [tr]) (by show (⟨#[]⟩ : ByteArray).size ≤ _; decide) (fun y hy => by simp [tr] at hy), by simp [tr, cnt, cnts, sz]⟩
  | .any, _ => ⟨Thin.mk _ (by simp [tr]) (by show (⟨#[]⟩ : ByteArray).size ≤ _; decide) (fun y hy => by simp [tr] at hy), by simp [tr, cnt, cnts, sz]⟩
  | .letter l, h => ⟨Thin.mk _ (by simp [tr]) (by have h1 : l.size = 1 := h; show l.size ≤ _; omega) (fun y hy => by simp [tr] at hy), by simp [tr, cnt, cnts, sz]⟩
  | .cat x y, h => by
    have h1 := thin_tr x h.1
    have h2 := thin_tr y h.2
    exact ⟨Thin.mk _ (by simp [tr]) (by show (⟨#[]⟩ : ByteArray).size ≤ _; decide) (fun z hz => by simp only [tr, List.mem_cons, List.not_mem_nil, or_false] at hz; rcases hz with rfl | rfl; exact h1.1; exact h2.1), by simp only [tr, cnt, cnts, sz]; omega⟩
  | .or x y, h => by
    have h1 := thin_tr x h.1
    have h2 := thin_tr y h.2
    exact ⟨Thin.mk _ (by simp [tr]) (by show (⟨#[]⟩ : ByteArray).size ≤ _; decide) (fun z hz => by simp only [tr, List.mem_cons, List.not_mem_nil, or_false] at hz; rcases hz with rfl | rfl; exact h1.1; exact h2.1), by simp only [tr, cnt, cnts, sz]; omega⟩
  | .and x y, h => by
    have h1 := thin_tr x h.1
    have h2 := thin_tr y h.2
    exact ⟨Thin.mk _ (by simp [tr]) (by show (⟨#[]⟩ : ByteArray).size ≤ _; decide) (fun z hz => by simp only [tr, List.mem_cons, List.not_mem_nil, or_false] at hz; rcases hz with rfl | rfl; exact h1.1; exact h2.1), by simp only [tr, cnt, cnts, sz]; omega⟩
  | .star x, h => by
    have h1 := thin_tr x h
    exact ⟨Thin.mk _ (by simp [tr]) (by show (⟨#[]⟩ : ByteArray).size ≤ _; decide) (fun z hz => by simp only [tr, List.mem_cons, List.not_mem_nil, or_false] at hz; rw [hz]; exact h1.1), by simp only [tr, cnt, cnts, sz]; omega⟩
  | .not x, h => by
    have h1 := thin_tr x h
    exact ⟨Thin.mk _ (by simp [tr]) (by show (⟨#[]⟩ : ByteArray).size ≤ _; decide) (fun z hz => by simp only [tr, List.mem_cons, List.not_mem_nil, or_false] at hz; rw [hz]; exact h1.1), by simp only [tr, cnt, cnts, sz]; omega⟩
end Go.Proofs.Ytldgkgdgcfllmaa
end
section
namespace Go.Proofs.Ytldgkgdgcfllmaa
open Go.RowKit Go.Shelf Go.Proofs.Ytldgkgdgcfllmaa.P Go.Proofs.Ytldgkgdgcfllmaa.Pl Go.Proofs.Ytldgkgdgcfllmaa.Rg Go.Proofs.Ytldgkgdgcfllmaa.Rk Go.Proofs.YtldgkgdgcfllmaaW.PrintWords Go.Proofs.YtldgkgdgcfllmaaW.PrintLast Go.Proofs.YtldgkgdgcfllmaaW.PrintMore
set_option linter.unusedVariables false
set_option linter.unusedSimpArgs false
abbrev PP (w : World) (s : ByteArray) (e : Ending) (w' : World) : Prop := ∃ v, e = .returned (.tuple #[.agg #[.int .i64 (prR s).2.f0, .string (prR s).2.f1, v], .bool (prR s).1]) ∧ Sl w w' [tre v (prR s).2.f2]
theorem ne_size {s : ByteArray} {k : Nat} {c0 : Int} {l : List Int} (h : (bytesOf s).drop k = c0 :: l) : ((k : Int) == (s.size : Int)) = false ∧ ((k : Int) = (s.size : Int)) = False := by
  have hk : k ≠ s.size := fun e => by
    rw [List.drop_eq_nil_of_le (by rw [len_bytes]; omega)] at h
    cases h
  exact ⟨by simp; omega, eq_false (by omega)⟩
theorem rd_top {s : ByteArray} {k : Nat} {b : Bool} {q : Tr} (h : RdR (if false = true then none else pN 6 ((bytesOf s).drop 0)) s k b q) : k ≤ s.size ∧ match pN 6 (bytesOf s) with
    | some x => b = false ∧ q = tr x.1 ∧ (bytesOf s).drop k = x.2
    | none => b = true := by
  rw [if_neg (by decide), List.drop_zero] at h
  exact ⟨h.le, h.ok⟩
theorem nd_cnt : ∀ t : Tr, Pl.nd t = cnt t := TI.ind fun x ih => by
  rw [Pl.nd_eq, cnt_eq]
  have : ∀ l : List Tr, (∀ y ∈ l, Pl.nd y = cnt y) → Pl.nds l = cnts l := by
    intro l
    induction l with
    | nil => intro _; rw [Pl.nds, cnts]
    | cons a l ihl => intro h; rw [Pl.nds, cnts, h a (by simp), ihl (fun y hy => h y (by simp [hy]))]
  rw [this x.f2 ih]
theorem parsed_thin {s : ByteArray} {x : Rx} {l : List Int} (h : pN 6 (bytesOf s) = some (x, l)) (hs : s.size ≤ 1048576) : Thin (tr x) ∧ Pl.nd (tr x) ≤ 2000000 ∧ cnt (tr x) ≤ 1048576 := by
  obtain ⟨h1, h2, h3⟩ := pN_ok 6 _ _ h
  have h4 := thin_tr x h1
  rw [len_bytes] at h2
  have h2 : sz x + l.length ≤ s.size := h2
  exact ⟨h4.1, by have := nd_cnt (tr x); omega, by omega⟩
set_option maxHeartbeats 40000000 in
set_option maxRecDepth 100000 in
theorem prImpl (s : ByteArray) (hs : s.size ≤ 1048576) (w : World) : Calls Try.prog 22 #[.string s] w (PP w s) := by
  have H := Sl.start w
  have hu := Try.underlying29
  have HS : Aside0 (s.size ≤ 140737488351232) := ⟨by omega⟩
  cases hp : pN 6 (bytesOf s) with
  | none =>
    have HR : Aside0 (prR s = (false, zeroT)) := ⟨by simp only [prR, hp]⟩
    have HP := am_ hp
    clear hp hs
    go_enter Try.func22, Try.ntmps22
    go_wp2_with (first | ((with_reducible refine gate_dst (N := 2) rfl ?_); refine nw_ H 2 zt 29 rfl ?_; clear H; intro g2 w1 H; replace H := H.nn; (try clear F0); (try clear F1); (try clear F2); (try clear F3); have F0 := H.f3 0) | ((with_reducible refine gate_dst (N := 9) rfl ?_); refine gL_ (some 9) Try.func48 #[.string s, .int .i64 ((6 : Nat) : Int)] ?_; refine (readCalls 6 (by omega) s _ HS.out).mono ?_; rintro e w2 ⟨v, q, rest, ok, rfl, H2, -, hm⟩; rw [HP.out] at hm; obtain rfl : ok = false := hm; obtain ⟨A, c, rfl, -, -⟩ := H2.tv 0; replace H := (H.call H2).nn; clear H2; (try clear F0); (try clear F1); (try clear F2); (try clear F3); have F0 := H.f3 0; refine ⟨_, rfl, ?_⟩) | ((with_reducible refine gate_dst (N := 4) rfl ?_); refine nw_ H 4 zt 29 rfl ?_; clear H; intro g4 w1 H; replace H := H.nn; (try clear F0); (try clear F1); (try clear F2); (try clear F3); have F0 := H.f3 0; have F2 := H.f3 2) | ((with_reducible refine gate_store (p := 4) rfl ?_); refine p3_ H 4 2 rfl ?_; clear H; intro w1 H; replace H := H.nn; (try clear F0); (try clear F1); (try clear F2); (try clear F3); have F0 := H.f3 0; have F2 := H.f3 2) | ((with_reducible refine gate_store (p := 2) rfl ?_); refine p3_ H 2 0 rfl ?_; clear H; intro w1 H; replace H := H.nn; (try clear F0); (try clear F1); (try clear F2); (try clear F3); have F0 := H.f3 0; have F2 := H.f3 2))
    refine bodyPost_ret (results_ct rfl _ _ g2 29 _ (0, 0) _ rfl (H.blk 0 rfl) hu rfl (by kernel_rfl)) rfl ?_
    show ∃ v, _ = Ending.returned (.tuple #[.agg #[.int .i64 (prR s).2.f0, .string (prR s).2.f1, v], .bool (prR s).1]) ∧ Sl w _ [tre v (prR s).2.f2]
    rw [HR.out]
    exact ⟨_, rfl, (sub_nil H).one 3⟩
  | some x2 =>
  obtain ⟨x, l⟩ := x2
  have hthin := parsed_thin hp hs
  have htxt := (pN_ok 6 _ _ hp).2.2
  have hlen := pN_len 6 _ _ hp
  cases l with
  | cons c0 l =>
    have HR : Aside0 (prR s = (false, zeroT)) := ⟨by simp only [prR, hp]⟩
    have HP := am_ hp
    clear hp hs hthin htxt hlen
    go_enter Try.func22, Try.ntmps22
    go_wp2_with (first | ((with_reducible refine gate_dst (N := 2) rfl ?_); refine nw_ H 2 zt 29 rfl ?_; clear H; intro g2 w1 H; replace H := H.nn; (try clear F0); (try clear F1); (try clear F2); (try clear F3); have F0 := H.f3 0) | ((with_reducible refine gate_dst (N := 9) rfl ?_); refine gL_ (some 9) Try.func48 #[.string s, .int .i64 ((6 : Nat) : Int)] ?_; refine (readCalls 6 (by omega) s _ HS.out).mono ?_; rintro e w2 ⟨v, q, rest, ok, rfl, H2, -, hm⟩; rw [HP.out] at hm; obtain ⟨rfl, rfl, hrest⟩ := hm; have i1 := isN (show rest.size ≠ 0 from fun e => by have := congrArg List.length hrest; rw [len_bytes, e] at this; cases this); have i2 := eq_false i1; clear hrest i1; obtain ⟨A, c, rfl, -, -⟩ := H2.tv 0; replace H := (H.call H2).nn; clear H2; (try clear F0); (try clear F1); (try clear F2); (try clear F3); have F0 := H.f3 0; refine ⟨_, rfl, ?_⟩) | ((with_reducible refine gate_dst (N := 4) rfl ?_); refine nw_ H 4 zt 29 rfl ?_; clear H; intro g4 w1 H; replace H := H.nn; (try clear F0); (try clear F1); (try clear F2); (try clear F3); have F0 := H.f3 0; have F2 := H.f3 2) | ((with_reducible refine gate_store (p := 4) rfl ?_); refine p3_ H 4 2 rfl ?_; clear H; intro w1 H; replace H := H.nn; (try clear F0); (try clear F1); (try clear F2); (try clear F3); have F0 := H.f3 0; have F2 := H.f3 2) | ((with_reducible refine gate_store (p := 2) rfl ?_); refine p3_ H 2 0 rfl ?_; clear H; intro w1 H; replace H := H.nn; (try clear F0); (try clear F1); (try clear F2); (try clear F3); have F0 := H.f3 0; have F2 := H.f3 2))
    refine bodyPost_ret (results_ct rfl _ _ g2 29 _ (0, 0) _ rfl (H.blk 0 rfl) hu rfl (by kernel_rfl)) rfl ?_
    show ∃ v, _ = Ending.returned (.tuple #[.agg #[.int .i64 (prR s).2.f0, .string (prR s).2.f1, v], .bool (prR s).1]) ∧ Sl w _ [tre v (prR s).2.f2]
    rw [HR.out]
    exact ⟨_, rfl, (sub_nil H).one 3⟩
  | nil =>
    have hz : s.size ≠ 0 := fun e => by
      have h0 : (bytesOf s).length = 0 := by rw [len_bytes]; exact e
      rw [h0] at hlen
      exact absurd hlen (by simp)
    have htx : Pl.txt (tr x) = s := bytes_inj (by rw [← htxt, List.append_nil])
    obtain ⟨kv, hv⟩ := (Pl.impl_validR (tr x) hthin.1).rounds
    by_cases hval : Pl.validR (tr x) = true
    · have HR : Aside0 (prR s = (true, tr x)) := ⟨by simp only [prR, hp, if_pos hval]⟩
      rw [hval] at hv
      have HP := am_ hp
      have HV := am_ hv
      clear hp hs hthin htxt hlen hz htx hval hv
      go_enter Try.func22, Try.ntmps22
      go_wp2_with (first | ((with_reducible refine gate_dst (N := 2) rfl ?_); refine nw_ H 2 zt 29 rfl ?_; clear H; intro g2 w1 H; replace H := H.nn; (try clear F0); (try clear F1); (try clear F2); (try clear F3); have F0 := H.f3 0) | ((with_reducible refine gate_dst (N := 9) rfl ?_); refine gL_ (some 9) Try.func48 #[.string s, .int .i64 ((6 : Nat) : Int)] ?_; refine (readCalls 6 (by omega) s _ HS.out).mono ?_; rintro e w2 ⟨v, q, rest, ok, rfl, H2, -, hm⟩; rw [HP.out] at hm; obtain ⟨rfl, rfl, hrest⟩ := hm; obtain rfl : rest = ⟨#[]⟩ := bytes_inj hrest; clear hrest; obtain ⟨A, c, rfl, -, -⟩ := H2.tv 0; replace H := (H.call H2).nn; clear H2; (try clear F0); (try clear F1); (try clear F2); (try clear F3); have F0 := H.f3 0; refine ⟨_, rfl, ?_⟩) | ((with_reducible refine gate_dst (N := 4) rfl ?_); refine nw_ H 4 zt 29 rfl ?_; clear H; intro g4 w1 H; replace H := H.nn; (try clear F0); (try clear F1); (try clear F2); (try clear F3); have F0 := H.f3 0; have F2 := H.f3 2) | ((with_reducible refine gate_store (p := 4) rfl ?_); refine p3_ H 4 2 rfl ?_; clear H; intro w1 H; replace H := H.nn; (try clear F0); (try clear F1); (try clear F2); (try clear F3); have F0 := H.f3 0; have F2 := H.f3 2) | ((with_reducible refine gate_dst (N := 21) rfl ?_); refine gate_guard (by rfl) ?_; dsimp only; refine gL_ (some 21) Try.func18 #[tv (tr x) A c] ?_; refine (impl_IsValidRegex.calls kv _ _ A c _ _ _ (H.rd 1).2 (H.rd 1).1 HV.out).mono ?_; rintro e w2 ⟨rfl, hb⟩; replace H := H.only hb; clear hb; (try clear F0); (try clear F1); (try clear F2); (try clear F3); have F0 := H.f3 0; have F2 := H.f3 2; refine ⟨_, rfl, ?_⟩) | ((with_reducible refine gate_store (p := 2) rfl ?_); refine p3_ H 2 0 rfl ?_; clear H; intro w1 H; replace H := H.nn; (try clear F0); (try clear F1); (try clear F2); (try clear F3); have F0 := H.f3 0; have F2 := H.f3 2))
      refine bodyPost_ret (results_ct rfl _ _ g2 29 _ (0, 0) _ rfl (H.blk 0 rfl) hu rfl (by kernel_rfl)) rfl ?_
      show ∃ v, _ = Ending.returned (.tuple #[.agg #[.int .i64 (prR s).2.f0, .string (prR s).2.f1, v], .bool (prR s).1]) ∧ Sl w _ [tre v (prR s).2.f2]
      rw [HR.out]
      exact ⟨_, rfl, H.one 1⟩
    · have hval2 : Pl.validR (tr x) = false := by simpa using hval
      have HR : Aside0 (prR s = (false, zeroT)) := ⟨by simp only [prR, hp, hval2]; rfl⟩
      rw [hval2] at hv
      have HP := am_ hp
      have HV := am_ hv
      clear hp hs hthin htxt hlen hz htx hval hval2 hv
      go_enter Try.func22, Try.ntmps22
      go_wp2_with (first | ((with_reducible refine gate_dst (N := 2) rfl ?_); refine nw_ H 2 zt 29 rfl ?_; clear H; intro g2 w1 H; replace H := H.nn; (try clear F0); (try clear F1); (try clear F2); (try clear F3); have F0 := H.f3 0) | ((with_reducible refine gate_dst (N := 9) rfl ?_); refine gL_ (some 9) Try.func48 #[.string s, .int .i64 ((6 : Nat) : Int)] ?_; refine (readCalls 6 (by omega) s _ HS.out).mono ?_; rintro e w2 ⟨v, q, rest, ok, rfl, H2, -, hm⟩; rw [HP.out] at hm; obtain ⟨rfl, rfl, hrest⟩ := hm; obtain rfl : rest = ⟨#[]⟩ := bytes_inj hrest; clear hrest; obtain ⟨A, c, rfl, -, -⟩ := H2.tv 0; replace H := (H.call H2).nn; clear H2; (try clear F0); (try clear F1); (try clear F2); (try clear F3); have F0 := H.f3 0; refine ⟨_, rfl, ?_⟩) | ((with_reducible refine gate_dst (N := 4) rfl ?_); refine nw_ H 4 zt 29 rfl ?_; clear H; intro g4 w1 H; replace H := H.nn; (try clear F0); (try clear F1); (try clear F2); (try clear F3); have F0 := H.f3 0; have F2 := H.f3 2) | ((with_reducible refine gate_store (p := 4) rfl ?_); refine p3_ H 4 2 rfl ?_; clear H; intro w1 H; replace H := H.nn; (try clear F0); (try clear F1); (try clear F2); (try clear F3); have F0 := H.f3 0; have F2 := H.f3 2) | ((with_reducible refine gate_dst (N := 21) rfl ?_); refine gate_guard (by rfl) ?_; dsimp only; refine gL_ (some 21) Try.func18 #[tv (tr x) A c] ?_; refine (impl_IsValidRegex.calls kv _ _ A c _ _ _ (H.rd 1).2 (H.rd 1).1 HV.out).mono ?_; rintro e w2 ⟨rfl, hb⟩; replace H := H.only hb; clear hb; (try clear F0); (try clear F1); (try clear F2); (try clear F3); have F0 := H.f3 0; have F2 := H.f3 2; refine ⟨_, rfl, ?_⟩) | ((with_reducible refine gate_store (p := 2) rfl ?_); refine p3_ H 2 0 rfl ?_; clear H; intro w1 H; replace H := H.nn; (try clear F0); (try clear F1); (try clear F2); (try clear F3); have F0 := H.f3 0; have F2 := H.f3 2))
      refine bodyPost_ret (results_ct rfl _ _ g2 29 _ (0, 0) _ rfl (H.blk 0 rfl) hu rfl (by kernel_rfl)) rfl ?_
      show ∃ v, _ = Ending.returned (.tuple #[.agg #[.int .i64 (prR s).2.f0, .string (prR s).2.f1, v], .bool (prR s).1]) ∧ Sl w _ [tre v (prR s).2.f2]
      rw [HR.out]
      exact ⟨_, rfl, (sub_nil H).one 3⟩
set_option maxHeartbeats 40000000 in
set_option maxRecDepth 100000 in
theorem prSpec (s : ByteArray) (hs : s.size ≤ 1048576) (w : World) : Calls Try.prog 21 #[.string s] w (PP w s) := by
  have H := Sl.start w
  have hu := Try.underlying29
  have hu2 := Try.underlying57
  have HNode : Aside0 (NodeAt 6 1) := ⟨nodeCalls 6 (by omega)⟩
  have HS : Aside0 (s.size ≤ 140737488351232) := ⟨by omega⟩
  cases hp : pN 6 (bytesOf s) with
  | none =>
    have HR : Aside0 (prR s = (false, zeroT)) := ⟨by simp only [prR, hp]⟩
    have HP := am_ hp
    clear hp hs
    go_enter Try.func21, Try.ntmps21
    go_wp2_with (first | ((with_reducible refine gate_dst (N := 2) rfl ?_); refine nw_ H 2 zt 29 rfl ?_; clear H; intro g2 w1 H; replace H := H.nn; (try clear F0); (try clear F1); (try clear F2); (try clear F3); have F0 := H.f3 0) | ((with_reducible refine gate_dst (N := 8) rfl ?_); refine nw_ H 8 #[.string s, .int .i64 0, .bool false] 57 rfl ?_; clear H; intro g8 w1 H; replace H := H.nn; (try clear F0); (try clear F1); (try clear F2); (try clear F3); have F0 := H.f3 0; have F1 := H.f3 1) | ((with_reducible refine gate_dst (N := 10) rfl ?_); refine gL_ (some 10) Try.func47 #[.pointer (some ⟨g8, 0, none⟩), .int .i64 1] ?_; refine (HNode.out _ _ g8 0 s false _ (H.box 1 rfl) (Nat.zero_le _) HS.out).mono ?_; rintro e w2 ⟨q, k, b, v, rfl, H2, hq⟩; replace H2 := H2.unbox (Nat.succ_lt_succ (Nat.succ_pos _)); obtain ⟨A, c, rfl, -, -⟩ := H2.tv _ List.getElem?_concat_length; replace hq := rd_top hq; rw [HP.out] at hq; obtain ⟨hk, rfl⟩ := hq; clear H; have H := H2.nn; clear H2; (try clear F0); (try clear F1); (try clear F2); (try clear F3); have F0 := H.f3 0; have F1 := H.f3 1; refine ⟨_, rfl, ?_⟩) | ((with_reducible refine gate_dst (N := 5) rfl ?_); refine nw_ H 5 zt 29 rfl ?_; clear H; intro g5 w1 H; replace H := H.nn; (try clear F0); (try clear F1); (try clear F2); (try clear F3); have F0 := H.f3 0; have F1 := H.f3 1; have F3 := H.f3 3) | ((with_reducible refine gate_store (p := 5) rfl ?_); refine p3_ H 5 3 rfl ?_; clear H; intro w1 H; replace H := H.nn; (try clear F0); (try clear F1); (try clear F2); (try clear F3); have F0 := H.f3 0; have F1 := H.f3 1; have F3 := H.f3 3) | ((with_reducible refine gate_store (p := 2) rfl ?_); refine p3_ H 2 0 rfl ?_; clear H; intro w1 H; replace H := H.nn; (try clear F0); (try clear F1); (try clear F2); (try clear F3); have F0 := H.f3 0; have F3 := H.f3 3))
    refine bodyPost_ret (results_ct rfl _ _ g2 29 _ (0, 0) _ rfl (H.blk 0 rfl) hu rfl (by kernel_rfl)) rfl ?_
    show ∃ v, _ = Ending.returned (.tuple #[.agg #[.int .i64 (prR s).2.f0, .string (prR s).2.f1, v], .bool (prR s).1]) ∧ Sl w _ [tre v (prR s).2.f2]
    rw [HR.out]
    exact ⟨_, rfl, (sub_nil H).one 4⟩
  | some x2 =>
  obtain ⟨x, l⟩ := x2
  have hthin := parsed_thin hp hs
  have htxt := (pN_ok 6 _ _ hp).2.2
  have hlen := pN_len 6 _ _ hp
  cases l with
  | cons c0 l =>
    have HR : Aside0 (prR s = (false, zeroT)) := ⟨by simp only [prR, hp]⟩
    have HP := am_ hp
    clear hp hs hthin htxt hlen
    go_enter Try.func21, Try.ntmps21
    go_wp2_with (first | ((with_reducible refine gate_dst (N := 2) rfl ?_); refine nw_ H 2 zt 29 rfl ?_; clear H; intro g2 w1 H; replace H := H.nn; (try clear F0); (try clear F1); (try clear F2); (try clear F3); have F0 := H.f3 0) | ((with_reducible refine gate_dst (N := 8) rfl ?_); refine nw_ H 8 #[.string s, .int .i64 0, .bool false] 57 rfl ?_; clear H; intro g8 w1 H; replace H := H.nn; (try clear F0); (try clear F1); (try clear F2); (try clear F3); have F0 := H.f3 0; have F1 := H.f3 1) | ((with_reducible refine gate_dst (N := 10) rfl ?_); refine gL_ (some 10) Try.func47 #[.pointer (some ⟨g8, 0, none⟩), .int .i64 1] ?_; refine (HNode.out _ _ g8 0 s false _ (H.box 1 rfl) (Nat.zero_le _) HS.out).mono ?_; rintro e w2 ⟨q, k, b, v, rfl, H2, hq⟩; replace H2 := H2.unbox (Nat.succ_lt_succ (Nat.succ_pos _)); obtain ⟨A, c, rfl, -, -⟩ := H2.tv _ List.getElem?_concat_length; replace hq := rd_top hq; rw [HP.out] at hq; obtain ⟨hk, rfl, rfl, hrest⟩ := hq; obtain ⟨i1, i2⟩ := ne_size hrest; clear hrest; clear H; have H := H2.nn; clear H2; (try clear F0); (try clear F1); (try clear F2); (try clear F3); have F0 := H.f3 0; have F1 := H.f3 1; refine ⟨_, rfl, ?_⟩) | ((with_reducible refine gate_dst (N := 5) rfl ?_); refine nw_ H 5 zt 29 rfl ?_; clear H; intro g5 w1 H; replace H := H.nn; (try clear F0); (try clear F1); (try clear F2); (try clear F3); have F0 := H.f3 0; have F1 := H.f3 1; have F3 := H.f3 3) | ((with_reducible refine gate_store (p := 5) rfl ?_); refine p3_ H 5 3 rfl ?_; clear H; intro w1 H; replace H := H.nn; (try clear F0); (try clear F1); (try clear F2); (try clear F3); have F0 := H.f3 0; have F1 := H.f3 1; have F3 := H.f3 3) | ((with_reducible refine gate_store (p := 2) rfl ?_); refine p3_ H 2 0 rfl ?_; clear H; intro w1 H; replace H := H.nn; (try clear F0); (try clear F1); (try clear F2); (try clear F3); have F0 := H.f3 0; have F3 := H.f3 3))
    refine bodyPost_ret (results_ct rfl _ _ g2 29 _ (0, 0) _ rfl (H.blk 0 rfl) hu rfl (by kernel_rfl)) rfl ?_
    show ∃ v, _ = Ending.returned (.tuple #[.agg #[.int .i64 (prR s).2.f0, .string (prR s).2.f1, v], .bool (prR s).1]) ∧ Sl w _ [tre v (prR s).2.f2]
    rw [HR.out]
    exact ⟨_, rfl, (sub_nil H).one 4⟩
  | nil =>
    have hz : s.size ≠ 0 := fun e => by
      have h0 : (bytesOf s).length = 0 := by rw [len_bytes]; exact e
      rw [h0] at hlen
      exact absurd hlen (by simp)
    have htx : Pl.txt (tr x) = s := bytes_inj (by rw [← htxt, List.append_nil])
    obtain ⟨kv, hv⟩ := (Pl.spec_fmt (tr x) hthin.1 hthin.2.1).rounds
    have n1 := isN hz
    have n2 := eq_false n1
    have n3 : ([] = s.toList) = False := eq_false (fun e => n1 e.symm)
    have n4 : s.toList.isEmpty = false := by cases hh : s.toList with
      | nil => exact absurd hh n1
      | cons _ _ => rfl
    clear n1
    by_cases hval : Pl.validR (tr x) = true
    · have HR : Aside0 (prR s = (true, tr x)) := ⟨by simp only [prR, hp, if_pos hval]⟩
      rw [show Pl.fmtR (tr x) = s by rw [Pl.fmtR, if_pos hval, htx]] at hv
      have HP := am_ hp
      have HV := am_ hv
      clear hp hs hthin htxt hlen hz htx hval hv
      go_enter Try.func21, Try.ntmps21
      go_wp2_with (first | ((with_reducible refine gate_dst (N := 2) rfl ?_); refine nw_ H 2 zt 29 rfl ?_; clear H; intro g2 w1 H; replace H := H.nn; (try clear F0); (try clear F1); (try clear F2); (try clear F3); have F0 := H.f3 0) | ((with_reducible refine gate_dst (N := 8) rfl ?_); refine nw_ H 8 #[.string s, .int .i64 0, .bool false] 57 rfl ?_; clear H; intro g8 w1 H; replace H := H.nn; (try clear F0); (try clear F1); (try clear F2); (try clear F3); have F0 := H.f3 0; have F1 := H.f3 1) | ((with_reducible refine gate_dst (N := 10) rfl ?_); refine gL_ (some 10) Try.func47 #[.pointer (some ⟨g8, 0, none⟩), .int .i64 1] ?_; refine (HNode.out _ _ g8 0 s false _ (H.box 1 rfl) (Nat.zero_le _) HS.out).mono ?_; rintro e w2 ⟨q, k, b, v, rfl, H2, hq⟩; replace H2 := H2.unbox (Nat.succ_lt_succ (Nat.succ_pos _)); obtain ⟨A, c, rfl, -, -⟩ := H2.tv _ List.getElem?_concat_length; replace hq := rd_top hq; rw [HP.out] at hq; obtain ⟨hk, rfl, rfl, hrest⟩ := hq; obtain rfl : k = s.size := (by have := congrArg List.length hrest; rw [List.length_drop, len_bytes] at this; simp only [List.length_nil] at this; omega); clear hrest hk; clear H; have H := H2.nn; clear H2; (try clear F0); (try clear F1); (try clear F2); (try clear F3); have F0 := H.f3 0; have F1 := H.f3 1; refine ⟨_, rfl, ?_⟩) | ((with_reducible refine gate_dst (N := 5) rfl ?_); refine nw_ H 5 zt 29 rfl ?_; clear H; intro g5 w1 H; replace H := H.nn; (try clear F0); (try clear F1); (try clear F2); (try clear F3); have F0 := H.f3 0; have F1 := H.f3 1; have F3 := H.f3 3) | ((with_reducible refine gate_store (p := 5) rfl ?_); refine p3_ H 5 3 rfl ?_; clear H; intro w1 H; replace H := H.nn; (try clear F0); (try clear F1); (try clear F2); (try clear F3); have F0 := H.f3 0; have F1 := H.f3 1; have F3 := H.f3 3) | ((with_reducible refine gate_dst (N := 26) rfl ?_); refine gate_guard (by rfl) ?_; dsimp only; refine gL_ (some 26) Try.func19 #[tv (tr x) A c] ?_; refine (spec_FormatRegex.calls kv _ _ A c _ _ _ (H.rd 2).2 (H.rd 2).1 HV.out).mono ?_; rintro e w2 ⟨rfl, hb⟩; replace H := H.only hb; clear hb; (try clear F0); (try clear F1); (try clear F2); (try clear F3); have F0 := H.f3 0; have F1 := H.f3 1; have F3 := H.f3 3; refine ⟨_, rfl, ?_⟩) | ((with_reducible refine gate_store (p := 2) rfl ?_); refine p3_ H 2 0 rfl ?_; clear H; intro w1 H; replace H := H.nn; (try clear F0); (try clear F1); (try clear F2); (try clear F3); have F0 := H.f3 0; have F3 := H.f3 3))
      refine bodyPost_ret (results_ct rfl _ _ g2 29 _ (0, 0) _ rfl (H.blk 0 rfl) hu rfl (by kernel_rfl)) rfl ?_
      show ∃ v, _ = Ending.returned (.tuple #[.agg #[.int .i64 (prR s).2.f0, .string (prR s).2.f1, v], .bool (prR s).1]) ∧ Sl w _ [tre v (prR s).2.f2]
      rw [HR.out]
      exact ⟨_, rfl, H.one 2⟩
    · have hval2 : Pl.validR (tr x) = false := by simpa using hval
      have HR : Aside0 (prR s = (false, zeroT)) := ⟨by simp only [prR, hp, hval2]; rfl⟩
      rw [show Pl.fmtR (tr x) = ⟨#[]⟩ by rw [Pl.fmtR, if_neg hval]] at hv
      have HP := am_ hp
      have HV := am_ hv
      clear hp hs hthin htxt hlen hz htx hval hval2 hv
      go_enter Try.func21, Try.ntmps21
      go_wp2_with (first | ((with_reducible refine gate_dst (N := 2) rfl ?_); refine nw_ H 2 zt 29 rfl ?_; clear H; intro g2 w1 H; replace H := H.nn; (try clear F0); (try clear F1); (try clear F2); (try clear F3); have F0 := H.f3 0) | ((with_reducible refine gate_dst (N := 8) rfl ?_); refine nw_ H 8 #[.string s, .int .i64 0, .bool false] 57 rfl ?_; clear H; intro g8 w1 H; replace H := H.nn; (try clear F0); (try clear F1); (try clear F2); (try clear F3); have F0 := H.f3 0; have F1 := H.f3 1) | ((with_reducible refine gate_dst (N := 10) rfl ?_); refine gL_ (some 10) Try.func47 #[.pointer (some ⟨g8, 0, none⟩), .int .i64 1] ?_; refine (HNode.out _ _ g8 0 s false _ (H.box 1 rfl) (Nat.zero_le _) HS.out).mono ?_; rintro e w2 ⟨q, k, b, v, rfl, H2, hq⟩; replace H2 := H2.unbox (Nat.succ_lt_succ (Nat.succ_pos _)); obtain ⟨A, c, rfl, -, -⟩ := H2.tv _ List.getElem?_concat_length; replace hq := rd_top hq; rw [HP.out] at hq; obtain ⟨hk, rfl, rfl, hrest⟩ := hq; obtain rfl : k = s.size := (by have := congrArg List.length hrest; rw [List.length_drop, len_bytes] at this; simp only [List.length_nil] at this; omega); clear hrest hk; clear H; have H := H2.nn; clear H2; (try clear F0); (try clear F1); (try clear F2); (try clear F3); have F0 := H.f3 0; have F1 := H.f3 1; refine ⟨_, rfl, ?_⟩) | ((with_reducible refine gate_dst (N := 5) rfl ?_); refine nw_ H 5 zt 29 rfl ?_; clear H; intro g5 w1 H; replace H := H.nn; (try clear F0); (try clear F1); (try clear F2); (try clear F3); have F0 := H.f3 0; have F1 := H.f3 1; have F3 := H.f3 3) | ((with_reducible refine gate_store (p := 5) rfl ?_); refine p3_ H 5 3 rfl ?_; clear H; intro w1 H; replace H := H.nn; (try clear F0); (try clear F1); (try clear F2); (try clear F3); have F0 := H.f3 0; have F1 := H.f3 1; have F3 := H.f3 3) | ((with_reducible refine gate_dst (N := 26) rfl ?_); refine gate_guard (by rfl) ?_; dsimp only; refine gL_ (some 26) Try.func19 #[tv (tr x) A c] ?_; refine (spec_FormatRegex.calls kv _ _ A c _ _ _ (H.rd 2).2 (H.rd 2).1 HV.out).mono ?_; rintro e w2 ⟨rfl, hb⟩; replace H := H.only hb; clear hb; (try clear F0); (try clear F1); (try clear F2); (try clear F3); have F0 := H.f3 0; have F1 := H.f3 1; have F3 := H.f3 3; refine ⟨_, rfl, ?_⟩) | ((with_reducible refine gate_store (p := 2) rfl ?_); refine p3_ H 2 0 rfl ?_; clear H; intro w1 H; replace H := H.nn; (try clear F0); (try clear F1); (try clear F2); (try clear F3); have F0 := H.f3 0; have F3 := H.f3 3))
      refine bodyPost_ret (results_ct rfl _ _ g2 29 _ (0, 0) _ rfl (H.blk 0 rfl) hu rfl (by kernel_rfl)) rfl ?_
      show ∃ v, _ = Ending.returned (.tuple #[.agg #[.int .i64 (prR s).2.f0, .string (prR s).2.f1, v], .bool (prR s).1]) ∧ Sl w _ [tre v (prR s).2.f2]
      rw [HR.out]
      exact ⟨_, rfl, (sub_nil H).one 4⟩
end Go.Proofs.Ytldgkgdgcfllmaa
end
section
namespace Go.Proofs.Ytldgkgdgcfllmaa
open Go.RowKit Go.Shelf Go.Proofs.Ytldgkgdgcfllmaa.P Go.Proofs.Ytldgkgdgcfllmaa.Pl Go.Proofs.Ytldgkgdgcfllmaa.Rg Go.Proofs.Ytldgkgdgcfllmaa.Rk Go.Proofs.YtldgkgdgcfllmaaW.PrintWords Go.Proofs.YtldgkgdgcfllmaaW.PrintLast Go.Proofs.YtldgkgdgcfllmaaW.PrintMore
set_option linter.unusedVariables false
set_option linter.unusedSimpArgs false
abbrev PQ (w : World) (ok : Bool) (q : Tr) (e : Ending) (w' : World) : Prop := ∃ v, e = .returned (.tuple #[.agg #[.int .i64 q.f0, .string q.f1, v], .bool ok]) ∧ Sl w w' [tre v q.f2]
theorem prR_ok (s : ByteArray) (hs : s.size ≤ 1048576) : Thin (prR s).2 ∧ cnt (prR s).2 ≤ 1048576 := by
  have z : Thin zeroT ∧ cnt zeroT ≤ 1048576 := ⟨Thin.mk _ (by simp) (by decide) (fun y hy => by simp at hy), by simp [cnt, cnts]⟩
  cases hp : pN 6 (bytesOf s) with
  | none => simp only [prR, hp]; exact z
  | some x =>
    obtain ⟨x, l⟩ := x
    have h := parsed_thin hp hs
    cases l with
    | cons c l => simp only [prR, hp]; exact z
    | nil =>
      by_cases hv : validR (tr x) = true
      · simp only [prR, hp, if_pos hv]; exact ⟨h.1, h.2.2⟩
      · simp only [prR, hp, if_neg hv]; exact z
set_option maxHeartbeats 40000000 in
set_option maxRecDepth 100000 in
theorem lawPr0 (s : ByteArray) (q : Tr) (ok : Bool) (w : World) (hsp : ∀ w', Calls Try.prog 21 #[.string s] w' (PQ w' ok q)) (him : ∀ w', Calls Try.prog 22 #[.string s] w' (PQ w' ok q))
    (htq : Thin q) (hcq : cnts q.f2 ≤ 400000000) (hs : s.size ≤ 1048576) :
    Calls Try.prog 6 #[.string s] w fun e w' => e = .returned (.bool true) ∧ Below w.heap.size w w' := by
  have HSp := am_ hsp
  have HIm := am_ him
  have HT := am_ (And.intro htq hcq)
  have q1 : decide ((s.size : Int) > 1048576) = false := decide_eq_false (by omega)
  have q2 : ((1048576 : Int) < (s.size : Int)) = False := eq_false (by omega)
  have q5 : decide (1 + 2 * (cnts q.f2 : Int) < 0) = false := decide_eq_false (by omega)
  have H := Sl.start w
  have hu := Try.underlying29
  clear hsp him htq hcq hs
  go_enter Try.func6, Try.ntmps6
  go_wp2_with (first |
    ((with_reducible refine gate_dst (N := 16) rfl ?_); refine gL_ (some 16) Try.func21 #[.string s] ?_; refine (HSp.out _).mono ?_; rintro e w2 ⟨v, rfl, H2⟩; obtain ⟨A1, c1, rfl, -, -⟩ := H2.tv 0; replace H := (H.call H2).nf; clear H2; refine ⟨_, rfl, ?_⟩) |
    ((with_reducible refine gate_dst (N := 3) rfl ?_); refine nw_ H 3 zt 29 rfl ?_; clear H; intro g3 w1 H; replace H := H.nf; have F1 := H.f3 1) |
    ((with_reducible refine gate_store (p := 3) rfl ?_); refine p3_ H 3 1 rfl ?_; clear H F1; intro w1 H; replace H := H.nf) |
    ((with_reducible refine gate_dst (N := 21) rfl ?_); refine gL_ (some 21) Try.func22 #[.string s] ?_; refine (HIm.out _).mono ?_; rintro e w2 ⟨v, rfl, H2⟩; obtain ⟨A2, c2, rfl, -, -⟩ := H2.tv 0; replace H := (H.call H2).nf; clear H2; refine ⟨_, rfl, ?_⟩) |
    ((with_reducible refine gate_dst (N := 5) rfl ?_); refine nw_ H 5 zt 29 rfl ?_; clear H; intro g5 w1 H; replace H := H.nf; have F3 := H.f3 3) |
    ((with_reducible refine gate_store (p := 5) rfl ?_); refine p3_ H 5 3 rfl ?_; clear H F3; intro w1 H; replace H := H.nf; have F1 := H.f3 1; have F3 := H.f3 3) |
    ((with_reducible refine gate_dst (N := 26) rfl ?_); refine gL_ (some 26) Try.func16 #[tv q A2 c2, tv q A1 c1] ?_; refine (eqCalls q HT.out.1 A2 A1 c2 c1 _ (H.rd 2).2 (H.rd 2).1 (H.rd 0).2 (H.rd 0).1).mono ?_; rintro e w2 ⟨rfl, hb⟩; replace H := H.only hb; clear hb F1 F3; have F3 := H.f3 3; refine ⟨_, rfl, ?_⟩) |
    ((with_reducible refine gate_dst (N := 35) rfl ?_); refine gL_ (some 35) Try.func23 #[tv q A2 c2, .int .i64 1] ?_; refine (mkCall H 2 q.f0 q.f1 rfl HT.out.2).mono ?_; rintro e w2 ⟨rfl, H2⟩; clear H F3; have H := H2.nf; clear H2; have F3 := H.f3 3; refine ⟨_, rfl, ?_⟩) |
    ((with_reducible refine gate_dst (N := 38) rfl ?_); refine gL_ (some 38) Try.func24 #[tv q A2 c2, .int .i64 1] ?_; refine (heCall q.f0 q.f1 (H.rd 2).2 HT.out.2).mono ?_; rintro e w2 ⟨rfl, hb⟩; replace H := H.only hb; clear hb F3; refine ⟨_, rfl, ?_⟩) |
    ((with_reducible refine gate_dst (N := 46) rfl ?_); refine gL_ (some 46) Try.func22 #[.string s] ?_; refine (HIm.out _).mono ?_; rintro e w2 ⟨v, rfl, H2⟩; obtain ⟨A4, c4, rfl, -, -⟩ := H2.tv 0; replace H := (H.call H2).nf; clear H2; refine ⟨_, rfl, ?_⟩) |
    ((with_reducible refine gate_dst (N := 9) rfl ?_); refine nw_ H 9 zt 29 rfl ?_; clear H; intro g9 w1 H; replace H := H.nf; have F5 := H.f3 5) |
    ((with_reducible refine gate_store (p := 9) rfl ?_); refine p3_ H 9 5 rfl ?_; clear H F5; intro w1 H; replace H := H.nf; have F1 := H.f3 1; have F5 := H.f3 5) |
    ((with_reducible refine gate_dst (N := 51) rfl ?_); refine gL_ (some 51) Try.func16 #[tv q A4 c4, tv q A1 c1] ?_; refine (eqCalls q HT.out.1 A4 A1 c4 c1 _ (H.rd 4).2 (H.rd 4).1 (H.rd 0).2 (H.rd 0).1).mono ?_; rintro e w2 ⟨rfl, hb⟩; replace H := H.only hb; clear hb F1 F5; have F3 := H.f3 3; refine ⟨_, rfl, ?_⟩) |
    ((with_reducible refine gate_dst (N := 60) rfl ?_); refine gL_ (some 60) Try.func24 #[tv q A2 c2, .int .i64 1] ?_; refine (heCall q.f0 q.f1 (H.rd 2).2 HT.out.2).mono ?_; rintro e w2 ⟨rfl, hb⟩; replace H := H.only hb; clear hb F3; refine ⟨_, rfl, ?_⟩))
  go_ret
  exact ⟨rfl, H.bel⟩
set_option maxHeartbeats 4000000 in
set_option maxRecDepth 100000 in
theorem lawPr (s : ByteArray) (w : World) (hs : s.size ≤ 140737488351232) : Calls Try.prog 6 #[.string s] w fun e w' => e = .returned (.bool true) ∧ Below w.heap.size w w' := by
  by_cases h1 : 1048576 < s.size
  · have q1 : decide ((s.size : Int) > 1048576) = true := decide_eq_true (by omega)
    have q2 : ((1048576 : Int) < (s.size : Int)) = True := eq_true (by omega)
    clear h1 hs
    go_enter Try.func6, Try.ntmps6
    go_wp2
    go_ret
    exact ⟨rfl, Below.refl _ _⟩
  · have h := prR_ok s (by omega)
    have hc := cnt_eq (prR s).2
    exact lawPr0 s (prR s).2 (prR s).1 w (fun w' => prSpec s (by omega) w') (fun w' => prImpl s (by omega) w') h.1 (by omega) (by omega)
end Go.Proofs.Ytldgkgdgcfllmaa
end
section
namespace Go.Proofs.Ytldgkgdgcfllmaa.P
open Go.RowKit Go.Proofs.YtldgkgdgcfllmaaW.PrintWords Go.Proofs.YtldgkgdgcfllmaaW.PrintLast Go.Proofs.YtldgkgdgcfllmaaW.PrintMore
attribute [local go_sem] max2_int min2_int max_two min_two max_three min_three max_four min_four
set_option linter.unusedVariables false
set_option linter.unusedSimpArgs false
def laws_FnExactParseRegex.f (a0 : ByteArray) : Option Bool := if a0.size ≤ 140737488351232 then some true else none
theorem laws_FnExactParseRegex.calls (a0 : ByteArray) (r : Bool) (w : World) (h : laws_FnExactParseRegex.f a0 = some r) (hR : r = true) :
    Calls Try.prog 6 #[.string a0] w fun e w' => e = .returned (.bool r) ∧ Below w.heap.size w w' := by
  unfold laws_FnExactParseRegex.f at h
  subst hR
  split at h
  · rename_i hp
    exact lawPr a0 w hp
  · cases h
end Go.Proofs.Ytldgkgdgcfllmaa.P
end
section
namespace Go.Proofs.Ytldgkgdgcfllmaa.St
open Go.Proofs.Ytldgkgdgcfllmaa Rk
def FnExactParseRegex : Prop := ∀ (a0 : ByteArray), a0.size ≤ 140737488351232 → P.laws_FnExactParseRegex.f a0 = some true
end Go.Proofs.Ytldgkgdgcfllmaa.St
end
section
namespace Go.Proofs.Ytldgkgdgcfllmaa.Pl
open Go.RowKit Go.Proofs.Ytldgkgdgcfllmaa Go.Proofs.Ytldgkgdgcfllmaa.P Go.Proofs.YtldgkgdgcfllmaaW.PrintWords Go.Proofs.YtldgkgdgcfllmaaW.PrintLast Go.Proofs.YtldgkgdgcfllmaaW.PrintMore Rk
set_option linter.unusedVariables false
theorem pureFnExactParseRegex : St.FnExactParseRegex := by
  intro s hs
  unfold laws_FnExactParseRegex.f
  rw [if_pos hs]
end Go.Proofs.Ytldgkgdgcfllmaa.Pl
end
section
namespace Go.Proofs.Ytldgkgdgcfllmaa.Pure
theorem FnExactParseRegex : St.FnExactParseRegex := Pl.pureFnExactParseRegex
end Go.Proofs.Ytldgkgdgcfllmaa.Pure
end
section
namespace Go.Proofs.Ytldgkgdgcfllmaa.fnExactParseRegex
open Go.ChangeShapes Go.WideShapes Go.ChangeAt Go.RowKit Go.Proofs.Ytldgkgdgcfllmaa.Rk Go.Proofs.YtldgkgdgcfllmaaW.PrintWords
open Go.ChangeMaps (open_string shut_string)
set_option linter.unusedVariables false
theorem own : ownKnob Try.prog.godebug = none := by kernel_rfl
theorem laidOut : laidOutB Try.prog = true := by kernel_rfl
set_option maxRecDepth 100000 in
theorem lifted (os : Os) (started : os.Started) (H : Type) (enc : TypeId × Value → H) :
    ReturnsInHanded {} Try.checked os 6 .any (Rows.fnExactParseRegexSpec.pre6 enc Try.prog Try.f6 Rows.fnExactParseRegexRow.domain false) (Rows.fnExactParseRegexSpec.post enc Try.prog Try.f6 false true false false) := by
  refine returnsInHanded_of_change_sized (C := Try.checked) own started (by kernel_rfl) Try.func6
    (ChangeSpec.witness6 (enc := enc) (C := Try.checked) false ⟨#[], #[.string ByteArray.empty], []⟩ 8 (by kernel_rfl) (by kernel_rfl) (by kernel_rfl) (by kernel_rfl)) ?_
  intro W base args ds gs before hval0 hW hcnd hsz0 _
  have hsz : (DataW.weightsEach Try.prog (Try.f6.params.toList ++ Rows.fnExactParseRegexSpec.plain.varTypes Try.prog) (ds ++ gs)).all (· ≤ reachBytes) = true := hsz0
  have hval : ∀ (j : Nat) t v, Try.f6.params[j]? = some t → args[j]? = some v → Value.okWide Try.prog W .any base t v := hval0
  have hW' := hW
  obtain ⟨p, q, hA0, hV, rfl, hfz, hnd⟩ := hW
  have hA : DataW.TrodAll enc Try.prog W 0 (fun _ => true) true Try.f6.params.toList args.toList ds p := hA0
  rw [Try.params6] at hA hval hsz
  obtain ⟨v0, vs0, d0, ds0, p0, q0, hargs, rfl, rfl, h0, r0⟩ := trodAll_cons hA
  obtain ⟨rfl, rfl, rfl⟩ := trodAll_nil r0
  obtain rfl : args = #[v0] := by cases args; simp_all
  obtain ⟨rfl, rfl⟩ := trodVars_none hV
  obtain ⟨a0, rfl, rfl, rfl, y0⟩ := open_string Try.underlying9 (hval 0 9 v0 rfl rfl) h0
  have w0 : a0.size ≤ 140737488351232 := by
    have z := sized_string hsz (j := 0) (t := 9) rfl rfl
    rw [Array.length_toList] at z
    exact z
  clear hA0 hval0 hsz0 hsz
  have hk := Pure.FnExactParseRegex a0 w0
  refine (P.laws_FnExactParseRegex.calls a0 true W  hk rfl).mono fun e W' hh => ?_
  obtain ⟨he, bel0⟩ := hh
  have bel : Below W.heap.size W W' := bel0
  subst he
  exact ⟨_, rfl, _, _, _, [], _, [], hW', trodAll_mk1 (shut_bool Try.underlying4 _), (trodAll_cons_mk (shut_string Try.underlying9 y0) trodAll_mk0), rfl, bel.frame _, fun h => by cases h⟩
theorem over : Rows.fnExactParseRegexRow.holds Try.pinned (OpenSpec.ofChange Rows.fnExactParseRegexSpec) :=
  OpenClaim.holds_of_wide 6 Try.f6 rfl rfl rfl rfl rfl rfl rfl ⟨rfl, rfl, rfl, rfl, rfl⟩ rfl rfl rfl rfl rfl (by kernel_rfl) Try.func6 (by kernel_rfl)
    (of_decide_eq_true (by kernel_rfl)) (by unfold Func.isWrapper; first | (rw [if_pos (by decide +kernel)]; kernel_rfl) | (rw [if_neg (by decide +kernel)]; exact ⟨rfl, rfl⟩))
    (fun os started H enc _ => lifted os started H enc)
theorem proved : Rows.FnExactParseRegexSaid := over
#print axioms proved
end Go.Proofs.Ytldgkgdgcfllmaa.fnExactParseRegex
namespace Go.Proofs.Ytldgkgdgcfllmaa
theorem fnExactParseRegex_holds : Rows.FnExactParseRegexSaid := fnExactParseRegex.proved
end Go.Proofs.Ytldgkgdgcfllmaa
end
