/- The walk of NextWord. No condition. -/
import Derived.Test.YtffagfflgoplbaaBase
import Derived.Lib.ConvBytes
import Derived.Test.YtffagfflgoplbaaP6
namespace Go.Proofs.Ytffagfflgoplbaa.Wk
open Go.RowKit Go.Proofs.Ytffagfflgoplbaa.P Go.Proofs.Ytffagfflgoplbaa.Pl Go.Proofs.YtffagfflgoplbaaW.PrintWords Go.Proofs.YtffagfflgoplbaaW.PrintLast Go.Proofs.YtffagfflgoplbaaW.PrintMore
set_option linter.unusedVariables false
set_option linter.unusedSimpArgs false

/-- Behind which place all bytes are 99. -/
def lead (l : List Int) : Nat → Nat
  | 0 => 0
  | m + 1 => if l.getD m 0 = 99 then lead l m else m + 1
def filled (l : List Int) (m : Nat) : List Int := l.take m ++ List.replicate (l.length - m) 97
def nextAt (l : List Int) (m : Nat) : List Int := if m = 0 then 97 :: filled l 0 else (filled l m).set (m - 1) ((l.getD (m - 1) 0 + 1) % 256)
def cand (s : ByteArray) : ByteArray := strOfNums (nextAt (bytesOf s) (lead (bytesOf s) (bytesOf s).length))
theorem lead_le (l : List Int) (m : Nat) : lead l m ≤ m := by
  induction m with
  | zero => exact Nat.le_refl _
  | succ m ih => unfold lead; split <;> omega
theorem len_filled (l : List Int) (m : Nat) (h : m ≤ l.length) : (filled l m).length = l.length := by simp [filled]; omega
theorem filled_get (l : List Int) (m j : Nat) (h : m ≤ l.length) (hj : j < l.length) : (filled l m).getD j 0 = if j < m then l.getD j 0 else 97 := by
  unfold filled
  rw [List.getD_eq_getElem?_getD]
  split
  · rename_i hlt
    rw [List.getElem?_append_left (by simp; omega), List.getElem?_take_of_lt hlt, ← List.getD_eq_getElem?_getD]
  · rename_i hge
    rw [List.getElem?_append_right (by simp; omega)]
    simp [List.getElem?_replicate, show j - min m l.length < l.length - m by omega]
theorem filled_step (l : List Int) (m : Nat) (h : m + 1 ≤ l.length) : (filled l (m + 1)).set m 97 = filled l m := by
  apply List.ext_getElem (by rw [List.length_set, len_filled l _ h, len_filled l _ (by omega)])
  intro j h1 h2
  have hj : j < l.length := by rw [len_filled l m (by omega)] at h2; exact h2
  have e1 := filled_get l (m + 1) j h hj
  have e2 := filled_get l m j (by omega) hj
  rw [List.getD_eq_getElem?_getD, List.getElem?_eq_getElem (by rw [len_filled l _ h]; exact hj), Option.getD_some] at e1
  rw [List.getD_eq_getElem?_getD, List.getElem?_eq_getElem h2, Option.getD_some] at e2
  rw [e2]
  by_cases e : m = j
  · subst e
    rw [List.getElem_set_self, if_neg (by omega)]
  · rw [List.getElem_set_ne e, e1]
    by_cases hlt : j < m
    · rw [if_pos (by omega), if_pos hlt]
    · rw [if_neg (by omega), if_neg hlt]

/-- A row of bytes that may be written. -/
structure Row (w : World) (g : Nat) (xs : List Int) : Prop where
  cells : ∀ j, j < xs.length → w.cell? ⟨g, j, none⟩ = some (.int .u8 (xs.getD j 0))
  free : ∀ j, j < xs.length → w.frozen? ⟨g, j, none⟩ = false
theorem Row.set {w : World} {g : Nat} {xs : List Int} (h : Row w g xs) (i : Nat) (hi : i < xs.length) (v : Int) : Row (w.setCell ⟨g, i, none⟩ (.int .u8 v)) g (xs.set i v) := by
  refine ⟨fun j hj => ?_, fun j hj => ?_⟩
  · rw [List.length_set] at hj
    by_cases e : j = i
    · subst e
      rw [World.cell?_setCell_same _ _ _ (h.cells j hj), List.getD_eq_getElem?_getD, List.getElem?_set_self hi]
      rfl
    · rw [World.cell?_setCell_other _ _ _ _ (by intro q; injection q with _ q2; exact e q2.symm), h.cells j hj]
      rw [List.getD_eq_getElem?_getD, List.getD_eq_getElem?_getD, List.getElem?_set_ne (Ne.symm e)]
  · rw [List.length_set] at hj
    rw [World.frozen?_setCell]
    exact h.free j hj
theorem Row.made (W : World) (e : TypeId) (s : ByteArray) : Row (Lib.bytesWorld W e s) W.heap.size (filled (bytesOf s) (bytesOf s).length) ∧ Below W.heap.size W (Lib.bytesWorld W e s) := by
  have hf : filled (bytesOf s) (bytesOf s).length = bytesOf s := by simp [filled]
  rw [hf]
  have hl := len_bytes s
  refine ⟨⟨fun j hj => ?_, fun j hj => ?_⟩, ?_⟩
  · rw [Lib.bytesWorld_cell W e s j (by omega)]
    have hj' : j < s.data.toList.length := by rw [Array.length_toList]; have : s.data.size = s.size := rfl; omega
    rw [List.getD_eq_getElem?_getD, List.getElem?_eq_getElem hj', List.getD_eq_getElem?_getD, List.getElem?_eq_getElem hj]
    simp [bytesOf]
  · have hsz : (Lib.bytesCells W e s).size ≥ s.size := by
      have hq : s.data.size = s.size := rfl
      simp [Lib.bytesCells]
    simp only [World.frozen?, Lib.bytesWorld_at_new]
    simp
    omega
  · have h1 := Lib.bytesWorld_size W e s
    refine ⟨rfl, ?_, rfl, by omega, fun k hk => Lib.bytesWorld_at_old W e s k hk⟩
    simp [Lib.bytesWorld, World.freeze, World.alloc, World.drew, -World.alloc_eq, -World.drew_eq]
theorem lead_stop (l : List Int) (m : Nat) (h : m = 0 ∨ l.getD (m - 1) 0 ≠ 99) : lead l m = m := by
  cases m with
  | zero => rfl
  | succ m =>
    rcases h with h | h
    · cases h
    · rw [lead]
      exact if_neg h
theorem lead_down (l : List Int) (m : Nat) (h : l.getD m 0 = 99) : lead l (m + 1) = lead l m := by rw [lead, if_pos h]

/-- What a call that answers a string tells. -/
def Out (w : World) (r : ByteArray) (e : Ending) (w' : World) : Prop := e = .returned (.string r) ∧ Below w.heap.size w w'

set_option maxHeartbeats 4000000 in
set_option maxRecDepth 100000 in
theorem nextCalls (k : Nat) (s : ByteArray) (t2 : Bool) (r : ByteArray) (w : World) (hs : s.size ≤ 30) (hr : r = if t2 = true then cand s else ⟨#[]⟩) (h1 : impl_IsWord.f k s = some true) (h2 : impl_IsWord.f k (cand s) = some t2) :
    Calls Try.prog 15 #[.string s] w (Out w r) := by
  have hlen := len_bytes s
  have HW1 := Aside0.mk (fun W => impl_IsWord.calls k s true W h1)
  have HW2 := Aside0.mk (fun W => impl_IsWord.calls k (cand s) t2 W h2)
  have HL := Aside0.mk hlen
  have hcv := fun W => Lib.run_convert_string_bytes (P := Try.prog) W 9 22 5 s Try.underlying9 Try.underlying22 Try.underlying5
  have HM := Aside0.mk (fun W => Row.made W 5 s)
  have HR := Aside0.mk hr
  clear h1 h2 hlen hr
  generalize hL : bytesOf s = l at *
  have HLs := Aside0.mk hL
  clear hL
  go_enter Try.func15, Try.ntmps15
  go_wp2_with (go_at_call 23; refine (HW1.out _).mono ?_; rintro e w' ⟨rfl, ⟨m, rfl⟩⟩)
  obtain ⟨hrow, hbel⟩ := HM.out (w.drewN m)
  have hsz0 : (w.drewN m).heap.size = w.heap.size := by simp
  rw [hsz0] at hrow
  have HB0 := Aside0.mk (below_then (pw_below_drewN (Below.refl w.heap.size w) m) (by simp) hbel)
  have HRow := Aside0.mk hrow
  clear hrow hbel hsz0 HM hcv
  generalize Lib.bytesWorld (w.drewN m) 5 s = W1 at HB0 HRow ⊢
  generalize grownCap (w.drewN m) s.size 0 5 = cp at *
  generalize hg : w.heap.size = g at HRow ⊢
  have HG := Aside0.mk (Nat.le_of_eq hg)
  clear hg
  have ht := Try.underlying22
  go_loopg [4] (l.length + 1) (fun gg v4 wr => ∃ mm : Nat, v4 = .int .i64 ((mm : Int) - 1) ∧ Aside0 (mm ≤ l.length) ∧ Aside0 (mm + 1 ≤ gg) ∧ Aside0 (lead l l.length = lead l mm) ∧ Aside0 (Row wr g (filled l mm)) ∧ Aside0 (Below w.heap.size w wr))
  case atStart => exact ⟨l.length, by rw [HL.out], ⟨Nat.le_refl _⟩, ⟨Nat.le_refl _⟩, ⟨rfl⟩, HRow, HB0⟩
  case round =>
    clear HRow HB0
    obtain ⟨mm, rfl, HM, HGG, HLD, HRow, HB⟩ := hrel
    have hfl := len_filled l mm HM.out
    have hcb := run_convert_bytes_arg (P := Try.prog) (w := wr) 22 5 Try.underlying22 Try.underlying5 g 0 s.size cp (filled l mm) (by rw [hfl, HL.out]) (fun i hi => by rw [Nat.zero_add]; exact HRow.out.cells i (by rw [hfl, HL.out]; exact hi)) 9 Try.underlying9
    cases mm with
    | zero =>
      have hc : cand s = (⟨#[97]⟩ : ByteArray) ++ strOfNums (filled l 0) := by
        have e0 : lead l l.length = 0 := HLD.out
        rw [cand, HLs.out, e0, show (⟨#[97]⟩ : ByteArray) = strOfNums [97] from rfl]
        apply bytes_inj
        rw [bytes_append]
        simp [nextAt, bytesOf, strOfNums]
      have hadd : (9223372036854775807 < 1 + (strOfNums (filled l 0)).size) = False := by
        rw [size_strOf, hfl, HL.out]
        exact eq_false (by omega)
      rw [hc] at HW2 HR
      have HC := Aside0.mk hcb
      clear hc hfl hcb
      generalize strOfNums (filled l 0) = x at HC HW2 HR hadd
      have hcb := HC.out
      clear HC
      rw [show (((0 : Nat) : Int) - 1) = -1 from rfl]
      cases t2 with
      | true =>
        have hrr := HR.out
        rw [if_pos rfl] at hrr
        have HRR := Aside0.mk hrr
        clear hrr
        go_wp2_with (go_at_call 23; refine (HW2.out _).mono ?_; rintro e w' ⟨rfl, ⟨m2, rfl⟩⟩)
        go_ret
        exact ⟨by rw [HRR.out]; rfl, pw_below_drewN HB.out _⟩
      | false =>
        have hrr := HR.out
        rw [if_neg (by simp)] at hrr
        have HRR := Aside0.mk hrr
        clear hrr
        go_wp2_with (go_at_call 23; refine (HW2.out _).mono ?_; rintro e w' ⟨rfl, ⟨m2, rfl⟩⟩)
        go_ret
        exact ⟨by rw [HRR.out]; rfl, pw_below_drewN HB.out _⟩
    | succ q =>
      have hq : q < l.length := by have := HM.out; omega
      have hqs : (q : Int) < (s.size : Int) := by rw [← HL.out]; omega
      have hget : (filled l (q + 1)).getD q 0 = l.getD q 0 := by rw [filled_get l (q + 1) q HM.out hq, if_pos (by omega)]
      have hcell : wr.cell? ⟨g, q, none⟩ = some (.int .u8 (l.getD q 0)) := by rw [← hget]; exact HRow.out.cells q (by rw [hfl]; exact hq)
      have hfree := HRow.out.free q (by rw [hfl]; exact hq)
      have hidx : ((q + 1 : Nat) : Int) - 1 = (q : Int) := by omega
      rw [hidx]
      clear hidx
      have HLEN := Aside0.mk hq
      have HS := Aside0.mk hs
      by_cases h99 : l.getD q 0 = 99
      · have hrow2 := HRow.out.set q (by rw [hfl]; exact hq) 97
        rw [filled_step l q (by omega)] at hrow2
        have HR2 := Aside0.mk hrow2
        have HLD2 := Aside0.mk (HLD.out.trans (lead_down l q h99))
        rw [h99] at hcell
        clear hrow2 hcb hfl hget h99 hq hs
        go_wp2
        go_roundg (q + 1)
        case measure => have := HGG.out; omega
        case rel => exact ⟨q, by rw [w64 (by omega) (by have h1_ := HLEN.out; have h2_ := HL.out; have h3_ := HS.out; omega)], ⟨by have := HLEN.out; omega⟩, ⟨by omega⟩, HLD2, HR2, ⟨HB.out.setCell HG.out _⟩⟩
      · have hb : (l.getD q 0 == 99) = false := beq_eq_false_iff_ne.mpr h99
        have hrow2 := HRow.out.set q (by rw [hfl]; exact hq) ((l.getD q 0 + 1) % 256)
        have hcb2 := run_convert_bytes_arg (P := Try.prog) (w := wr.setCell ⟨g, q, none⟩ (.int .u8 ((l.getD q 0 + 1) % 256))) 22 5 Try.underlying22 Try.underlying5 g 0 s.size cp ((filled l (q + 1)).set q ((l.getD q 0 + 1) % 256)) (by rw [List.length_set, hfl, HL.out]) (fun i hi => by rw [Nat.zero_add]; exact hrow2.cells i (by rw [List.length_set, hfl, HL.out]; exact hi)) 9 Try.underlying9
        have hc : cand s = strOfNums ((filled l (q + 1)).set q ((l.getD q 0 + 1) % 256)) := by
          have e0 : lead l l.length = q + 1 := HLD.out.trans (lead_stop l (q + 1) (.inr (by rw [Nat.add_sub_cancel]; exact h99)))
          rw [cand, HLs.out, e0, nextAt, if_neg (by omega)]
          rfl
        rw [hc] at HW2 HR
        have HRow2 := Aside0.mk hrow2
        clear hrow2 hc hfl hget h99 hq hs
        generalize strOfNums ((filled l (q + 1)).set q ((l.getD q 0 + 1) % 256)) = x at hcb2 HW2 HR
        generalize strOfNums (filled l (q + 1)) = y at hcb
        clear HRow2
        generalize l.getD q 0 = c at hcell hb hcb2
        cases t2 with
        | true =>
          have hrr := HR.out
          rw [if_pos rfl] at hrr
          have HRR := Aside0.mk hrr
          clear hrr
          go_wp2_with (go_at_call 23; refine (HW2.out _).mono ?_; rintro e w' ⟨rfl, ⟨m2, rfl⟩⟩)
          go_ret
          exact ⟨by rw [HRR.out]; rfl, pw_below_drewN (HB.out.setCell HG.out _) _⟩
        | false =>
          have hrr := HR.out
          rw [if_neg (by simp)] at hrr
          have HRR := Aside0.mk hrr
          clear hrr
          go_wp2_with (go_at_call 23; refine (HW2.out _).mono ?_; rintro e w' ⟨rfl, ⟨m2, rfl⟩⟩)
          go_ret
          exact ⟨by rw [HRR.out]; rfl, pw_below_drewN (HB.out.setCell HG.out _) _⟩

set_option maxHeartbeats 4000000 in
set_option maxRecDepth 100000 in
theorem nextCallsNo (k : Nat) (s : ByteArray) (w : World) (h1 : impl_IsWord.f k s = some false) :
    Calls Try.prog 15 #[.string s] w (Out w ⟨#[]⟩) := by
  have HW1 := Aside0.mk (fun W => impl_IsWord.calls k s false W h1)
  clear h1
  go_enter Try.func15, Try.ntmps15
  go_wp2_with (go_at_call 23; refine (HW1.out _).mono ?_; rintro e w' ⟨rfl, ⟨m, rfl⟩⟩)
  go_ret
  exact ⟨rfl, pw_below_drewN (Below.refl _ _) _⟩
theorem isWord_short {k : Nat} {s : ByteArray} (h : impl_IsWord.f k s = some true) : s.size ≤ 30 := by
  unfold impl_IsWord.f at h
  split at h
  · omega
  · cases h
end Go.Proofs.Ytffagfflgoplbaa.Wk
