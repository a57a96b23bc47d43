/- The walks over strconv.Itoa: impl.FormatInt, and the two laws that reach it. The table is a condition of the world. -/
import Derived.Test.YtffagfflgoplbaaDoorNumL
import Derived.Test.YtffagfflgoplbaaDoorShelf
import Derived.Lib.AppendIntMem
import Derived.Test.YtffagfflgoplbaaDoorP1
import Derived.Test.YtffagfflgoplbaaDoorP2
import Derived.Test.YtffagfflgoplbaaDoorP3
namespace Go.Proofs.YtffagfflgoplbaaDoor.Wk
open Go.RowKit Go.Proofs.YtffagfflgoplbaaDoor Go.Proofs.YtffagfflgoplbaaDoor.P Go.Proofs.YtffagfflgoplbaaDoor.Pl Go.Proofs.YtffagfflgoplbaaDoorW.PrintWords Go.Proofs.YtffagfflgoplbaaDoorW.PrintLast Go.Proofs.YtffagfflgoplbaaDoorW.PrintMore
set_option linter.unusedVariables false
set_option linter.unusedSimpArgs false

abbrev Tab (w : World) : Prop := Lib.TabIs Tryd.prog w "internal/strconv.uint64pow10" .u64 Lib.pow10Tab
theorem tabBelow {w w' : World} (h : Tab w) (hb : Below w.heap.size w w') : Tab w' := by
  unfold Tab Lib.TabIs World.var? at *
  cases hg : Tryd.prog.globalNamed "internal/strconv.uint64pow10" with
  | none => simp [hg] at h
  | some g =>
    simp only [hg, Option.bind_some] at h ⊢
    have hlt : g < w.heap.size := by
      rcases Nat.lt_or_ge g w.heap.size with q | q
      · exact q
      · rw [Array.getElem?_eq_none q] at h
        simp at h
    rw [hb.block g hlt]
    exact h
set_option maxHeartbeats 4000000 in
set_option maxRecDepth 100000 in
theorem fmtCalls (n : Int) (h0 : -9223372036854775808 ≤ n) (h1 : n ≤ 9223372036854775807) (w : World) (ht : Tab w) :
    Calls Tryd.prog 6 #[.int .i64 n] w fun e w' => e = .returned (.string (itoaS n)) ∧ Below w.heap.size w w' := by
  have HC := Aside0.mk (Tryd.strconv_Itoa n h0 h1 w ht)
  clear ht
  go_enter Tryd.func6, Tryd.ntmps6
  go_wp2_with (go_at_call 13; refine HC.out.mono ?_; rintro e w' ⟨rfl, kk, os, rfl⟩)
  go_ret
  exact ⟨rfl, Lib.below_grow _ _ (Nat.le_refl _) _ _⟩
set_option maxHeartbeats 4000000 in
set_option maxRecDepth 100000 in
theorem exactCalls (k : Nat) (n : Int) (h0 : -9223372036854775808 ≤ n) (h1 : n ≤ 9223372036854775807) (w : World) (ht : Tab w) (hs : spec_FormatInt.f k n = some (itoaS n)) :
    Calls Tryd.prog 3 #[.int .i64 n] w fun e w' => e = .returned (.bool true) ∧ Below w.heap.size w w' := by
  have HS := Aside0.mk (spec_FormatInt.calls k n _ w hs)
  have HF := Aside0.mk (fun W hb => fmtCalls n h0 h1 W (tabBelow ht hb))
  have hq : ((itoaS n).toList == (itoaS n).toList) = true := beq_self_eq_true _
  clear ht hs
  go_enter Tryd.func3, Tryd.ntmps3
  go_wp2_with (first | (go_at_call 5; refine HS.out.mono ?_; rintro e w' ⟨rfl, hb⟩; have HB := Aside0.mk hb; clear hb) | (go_at_call 6; refine (HF.out _ (by exact HB.out)).mono ?_; rintro e w2 ⟨rfl, hb⟩; have HB2 := Aside0.mk (below_then HB.out HB.out.size hb); clear hb))
  go_ret
  exact ⟨rfl, HB2.out⟩
set_option maxHeartbeats 16000000 in
set_option maxRecDepth 100000 in
theorem numbersBig (A0 : Option Addr) (c0 : Nat) (l0 : List Int) (w : World) (hr0 : Kd.C (Kd.int .u8) w A0 l0.length l0) (hc0 : l0.length ≤ c0) (hbig : laws_big.f l0 = some true) :
    Calls Tryd.prog 4 #[.slice A0 l0.length c0] w fun e w' => e = .returned (.bool true) ∧ Below w.heap.size w w' := by
  have HB := Aside0.mk (laws_big.calls A0 c0 l0 true w hr0 hc0 hbig)
  clear hr0 hc0 hbig
  go_enter Tryd.func4, Tryd.ntmps4
  go_wp2_with (go_at_call 7; refine HB.out.mono ?_; rintro e w' ⟨rfl, ⟨m, rfl⟩⟩)
  go_ret
  exact ⟨rfl, pw_below_drewN (Below.refl _ _) _⟩
set_option maxHeartbeats 16000000 in
set_option maxRecDepth 100000 in
theorem numbersCalls (k : Nat) (A0 : Option Addr) (c0 : Nat) (l0 : List Int) (w : World) (hr0 : Kd.C (Kd.int .u8) w A0 l0.length l0) (hc0 : l0.length ≤ c0) (ht : Tab w) (hbig : laws_big.f l0 = some false)
    (n x : Int) (ok b1 b2 b3 : Bool) (h0 : -9223372036854775808 ≤ n) (h1 : n ≤ 9223372036854775807) (hn : spec_DrawFormatInt.f k l0 = some n) (hp : impl_ParseInt.f k (itoaS n) = some (x, ok)) (hs : spec_FormatInt.f k n = some (itoaS n))
    (q1 : decide (((itoaS n).size : Int) ≤ 12) = b1) (q2 : decide (n < 0) = b2) (q3 : decide (((itoaS n).size : Int) ≤ 13) = b3) (hok : ok = (b1 || (b2 && b3))) (hx : ok = true → x = n)
    (t : ByteArray) (y y2 : Int) (fine : Bool) (hd : spec_DrawParseNumber.f k l0 = some t) (hpn : impl_ParseNumber.f k t = some (y, fine)) (hsn : spec_ParseNumber.f k t = some (y2, fine)) (hy : fine = true → itoaS y = t ∧ 0 ≤ y ∧ y ≤ 9223372036854775807) :
    Calls Tryd.prog 4 #[.slice A0 l0.length c0] w fun e w' => e = .returned (.bool true) ∧ Below w.heap.size w w' := by
  have HB := Aside0.mk (laws_big.calls A0 c0 l0 false w hr0 hc0 hbig)
  have HD := Aside0.mk (fun W (hb : Below w.heap.size w W) => spec_DrawFormatInt.calls k A0 c0 l0 n W (Kd.C_below hr0 hb) hc0 hn)
  have HF := Aside0.mk (fun W (hb : Below w.heap.size w W) => fmtCalls n h0 h1 W (tabBelow ht hb))
  have HP := Aside0.mk (fun W => impl_ParseInt.calls k (itoaS n) x ok W hp)
  have HS := Aside0.mk (fun W => spec_FormatInt.calls k n _ W hs)
  have HT := Aside0.mk (fun W (hb : Below w.heap.size w W) => spec_DrawParseNumber.calls k A0 c0 l0 t W (Kd.C_below hr0 hb) hc0 hd)
  have HN := Aside0.mk (fun W => impl_ParseNumber.calls k t y fine W hpn)
  have HM := Aside0.mk (fun W => spec_ParseNumber.calls k t y2 fine W hsn)
  have HY := Aside0.mk (fun W (hb : Below w.heap.size w W) (hf : fine = true) => fmtCalls y (by have := (hy hf).2.1; omega) (hy hf).2.2 W (tabBelow ht hb))
  have HT2 := Aside0.mk hy
  have HX := Aside0.mk hx
  have q0 : ((itoaS n).toList != (itoaS n).toList) = false := bne_self_eq_false _
  clear hr0 hc0 ht hbig hn hp hs hd hpn hsn hy hx h0 h1
  have HW := Aside0.mk (Below.refl w.heap.size w)
  have HOK := Aside0.mk hok
  clear hok
  cases fine with
  | true =>
    have qy := HT2.out rfl
    have d1 : ((itoaS y).toList == t.toList) = true := by rw [qy.1]; exact beq_self_eq_true _
    have d2 : decide (y ≥ 0) = true := decide_eq_true qy.2.1
    clear qy
    cases b1 <;> cases b2 <;> cases b3 <;> cases ok <;> first
      | (exfalso; have := HOK.out; simp at this; done)
      | (have dx : (x != n) = false := by (rw [HX.out rfl]; exact bne_self_eq_false _)
         go_enter Tryd.func4, Tryd.ntmps4
         go_wp2_with (first | (go_at_call 7; refine HB.out.mono ?_; rintro e w' ⟨rfl, ⟨m, rfl⟩⟩; have HW := Aside0.mk (pw_below_drewN HW.out m)) | (go_at_call 8; refine (HD.out _ (by exact HW.out)).mono ?_; rintro e w' ⟨rfl, hb⟩; have HW := Aside0.mk (below_then HW.out HW.out.size hb); clear hb) | (go_at_call 6; (first | (refine (HF.out _ (by exact HW.out)).mono ?_) | (refine (HY.out _ (by exact HW.out) (by trivial)).mono ?_)); rintro e w' ⟨rfl, hb⟩; have HW := Aside0.mk (below_then HW.out HW.out.size hb); clear hb) | (go_at_call 9; refine (HP.out _).mono ?_; rintro e w' ⟨rfl, ⟨m, rfl⟩⟩; have HW := Aside0.mk (pw_below_drewN HW.out m)) | (go_at_call 5; refine (HS.out _).mono ?_; rintro e w' ⟨rfl, hb⟩; have HW := Aside0.mk (below_then HW.out HW.out.size hb); clear hb) | (go_at_call 10; refine (HT.out _ (by exact HW.out)).mono ?_; rintro e w' ⟨rfl, hb⟩; have HW := Aside0.mk (below_then HW.out HW.out.size hb); clear hb) | (go_at_call 11; refine (HN.out _).mono ?_; rintro e w' ⟨rfl, hb⟩; have HW := Aside0.mk (below_then HW.out HW.out.size hb); clear hb) | (go_at_call 12; refine (HM.out _).mono ?_; rintro e w' ⟨rfl, hb⟩; have HW := Aside0.mk (below_then HW.out HW.out.size hb); clear hb))
         go_ret
         exact ⟨rfl, HW.out⟩)
      | (go_enter Tryd.func4, Tryd.ntmps4
         go_wp2_with (first | (go_at_call 7; refine HB.out.mono ?_; rintro e w' ⟨rfl, ⟨m, rfl⟩⟩; have HW := Aside0.mk (pw_below_drewN HW.out m)) | (go_at_call 8; refine (HD.out _ (by exact HW.out)).mono ?_; rintro e w' ⟨rfl, hb⟩; have HW := Aside0.mk (below_then HW.out HW.out.size hb); clear hb) | (go_at_call 6; (first | (refine (HF.out _ (by exact HW.out)).mono ?_) | (refine (HY.out _ (by exact HW.out) (by trivial)).mono ?_)); rintro e w' ⟨rfl, hb⟩; have HW := Aside0.mk (below_then HW.out HW.out.size hb); clear hb) | (go_at_call 9; refine (HP.out _).mono ?_; rintro e w' ⟨rfl, ⟨m, rfl⟩⟩; have HW := Aside0.mk (pw_below_drewN HW.out m)) | (go_at_call 5; refine (HS.out _).mono ?_; rintro e w' ⟨rfl, hb⟩; have HW := Aside0.mk (below_then HW.out HW.out.size hb); clear hb) | (go_at_call 10; refine (HT.out _ (by exact HW.out)).mono ?_; rintro e w' ⟨rfl, hb⟩; have HW := Aside0.mk (below_then HW.out HW.out.size hb); clear hb) | (go_at_call 11; refine (HN.out _).mono ?_; rintro e w' ⟨rfl, hb⟩; have HW := Aside0.mk (below_then HW.out HW.out.size hb); clear hb) | (go_at_call 12; refine (HM.out _).mono ?_; rintro e w' ⟨rfl, hb⟩; have HW := Aside0.mk (below_then HW.out HW.out.size hb); clear hb))
         go_ret
         exact ⟨rfl, HW.out⟩)
  | false =>
    cases b1 <;> cases b2 <;> cases b3 <;> cases ok <;> first
      | (exfalso; have := HOK.out; simp at this; done)
      | (have dx : (x != n) = false := by (rw [HX.out rfl]; exact bne_self_eq_false _)
         go_enter Tryd.func4, Tryd.ntmps4
         go_wp2_with (first | (go_at_call 7; refine HB.out.mono ?_; rintro e w' ⟨rfl, ⟨m, rfl⟩⟩; have HW := Aside0.mk (pw_below_drewN HW.out m)) | (go_at_call 8; refine (HD.out _ (by exact HW.out)).mono ?_; rintro e w' ⟨rfl, hb⟩; have HW := Aside0.mk (below_then HW.out HW.out.size hb); clear hb) | (go_at_call 6; (first | (refine (HF.out _ (by exact HW.out)).mono ?_) | (refine (HY.out _ (by exact HW.out) (by trivial)).mono ?_)); rintro e w' ⟨rfl, hb⟩; have HW := Aside0.mk (below_then HW.out HW.out.size hb); clear hb) | (go_at_call 9; refine (HP.out _).mono ?_; rintro e w' ⟨rfl, ⟨m, rfl⟩⟩; have HW := Aside0.mk (pw_below_drewN HW.out m)) | (go_at_call 5; refine (HS.out _).mono ?_; rintro e w' ⟨rfl, hb⟩; have HW := Aside0.mk (below_then HW.out HW.out.size hb); clear hb) | (go_at_call 10; refine (HT.out _ (by exact HW.out)).mono ?_; rintro e w' ⟨rfl, hb⟩; have HW := Aside0.mk (below_then HW.out HW.out.size hb); clear hb) | (go_at_call 11; refine (HN.out _).mono ?_; rintro e w' ⟨rfl, hb⟩; have HW := Aside0.mk (below_then HW.out HW.out.size hb); clear hb) | (go_at_call 12; refine (HM.out _).mono ?_; rintro e w' ⟨rfl, hb⟩; have HW := Aside0.mk (below_then HW.out HW.out.size hb); clear hb))
         go_ret
         exact ⟨rfl, HW.out⟩)
      | (go_enter Tryd.func4, Tryd.ntmps4
         go_wp2_with (first | (go_at_call 7; refine HB.out.mono ?_; rintro e w' ⟨rfl, ⟨m, rfl⟩⟩; have HW := Aside0.mk (pw_below_drewN HW.out m)) | (go_at_call 8; refine (HD.out _ (by exact HW.out)).mono ?_; rintro e w' ⟨rfl, hb⟩; have HW := Aside0.mk (below_then HW.out HW.out.size hb); clear hb) | (go_at_call 6; (first | (refine (HF.out _ (by exact HW.out)).mono ?_) | (refine (HY.out _ (by exact HW.out) (by trivial)).mono ?_)); rintro e w' ⟨rfl, hb⟩; have HW := Aside0.mk (below_then HW.out HW.out.size hb); clear hb) | (go_at_call 9; refine (HP.out _).mono ?_; rintro e w' ⟨rfl, ⟨m, rfl⟩⟩; have HW := Aside0.mk (pw_below_drewN HW.out m)) | (go_at_call 5; refine (HS.out _).mono ?_; rintro e w' ⟨rfl, hb⟩; have HW := Aside0.mk (below_then HW.out HW.out.size hb); clear hb) | (go_at_call 10; refine (HT.out _ (by exact HW.out)).mono ?_; rintro e w' ⟨rfl, hb⟩; have HW := Aside0.mk (below_then HW.out HW.out.size hb); clear hb) | (go_at_call 11; refine (HN.out _).mono ?_; rintro e w' ⟨rfl, hb⟩; have HW := Aside0.mk (below_then HW.out HW.out.size hb); clear hb) | (go_at_call 12; refine (HM.out _).mono ?_; rintro e w' ⟨rfl, hb⟩; have HW := Aside0.mk (below_then HW.out HW.out.size hb); clear hb))
         go_ret
         exact ⟨rfl, HW.out⟩)

end Go.Proofs.YtffagfflgoplbaaDoor.Wk
