/- Texts of the proof of FnExactIsFinite, put together. No condition. -/
import Derived.Test.YtpgdhpnmagmooaaQFnExactIsFinite2
import Derived.Shelf.Abstract
import Derived.Lib.Walk
import Derived.Test.YtpgdhpnmagmooaaQFnExactIsFinite3
import Derived.Deep.Slices
import Derived.Lib.SmallJoins
section
namespace Go.Proofs.Ytpgdhpnmagmooaa.Wk
open Go.RowKit Go.Shelf Go.Proofs.Ytpgdhpnmagmooaa.P Go.Proofs.YtpgdhpnmagmooaaW.PrintWords Go.Proofs.YtpgdhpnmagmooaaW.PrintLast Go.Proofs.YtpgdhpnmagmooaaW.PrintMore
set_option linter.unusedVariables false
set_option linter.unusedSimpArgs false
def Hit (p : Nat → Bool) (n : Nat) (r : Int) : Prop := decide (0 ≤ r) = (List.range n).any p
def Told (P : Int → Prop) (w : World) (e : Ending) (w' : World) : Prop := ∃ r : Int, e = .returned (.int .i64 r) ∧ P r ∧ Below w.heap.size w w'
theorem hit_at {p : Nat → Bool} {n k : Nat} (h : k < n) (hp : p k = true) : Hit p n (k : Int) := by
  unfold Hit
  rw [decide_eq_true (by omega), eq_comm, List.any_eq_true]
  exact ⟨k, List.mem_range.mpr h, hp⟩
theorem hit_none {p : Nat → Bool} {n : Nat} (h : ∀ j, j < n → p j = false) : Hit p n (-1) := by
  unfold Hit
  rw [decide_eq_false (by omega), eq_comm, List.any_eq_false]
  intro x hx
  rw [h x (List.mem_range.mp hx)]
  simp
set_option maxHeartbeats 2000000 in
theorem indexRows {vals : Nat → Value} {p : Nat → Bool} (A : Option Addr) (n c g : Nat) (lb : Array Value) (eg : ∀ args w, (callFunc g args).run Try.prog w = .ok (.enter g args) w) (w : World) (hn : n ≤ 9223372036854775807)
    (hc : 0 < n → ∃ ad : Addr, A = some ad ∧ ∀ j, j < n → w.cell? (ad.add j) = some (vals j))
    (hp : ∀ j, j < n → ∀ W, Below w.heap.size w W → Calls Try.prog g (#[vals j] ++ lb) W fun e W' => e = .returned (.bool (p j)) ∧ Below W.heap.size W W') :
    Calls Try.prog 61 #[.slice A n c, .func (.func g) #[] lb] w (Told (Hit p n) w) := by
  rcases Nat.eq_zero_or_pos n with h0 | h0
  · subst h0
    clear hc hp
    go_enter Try.func61, Try.ntmps61
    go_wp2
    go_loopg [5, 8] 0 (fun _ _ s8 wr => s8 = .int .i64 0 ∧ wr = w)
    case atStart => exact ⟨rfl, rfl⟩
    case round =>
      obtain ⟨rfl, rfl⟩ := hrel
      go_wp2
      go_ret
      exact ⟨-1, rfl, hit_none (fun j hj => by omega), Below.refl _ _⟩
  · obtain ⟨ad, rfl, hcc⟩ := hc h0
    clear hc
    have HC := am_ hcc
    clear hcc
    have HP := am_ hp
    clear hp
    go_enter Try.func61, Try.ntmps61
    go_wp2
    go_loopg [5, 8] n (fun gg _ s8 wr => ∃ kk : Nat, s8 = .int .i64 kk ∧ Aside0 (kk ≤ n) ∧ Aside0 (n - kk ≤ gg) ∧ Aside0 (Below w.heap.size w wr) ∧ Aside0 (∀ j, j < kk → p j = false))
    case atStart => exact ⟨0, rfl, ⟨Nat.zero_le _⟩, ⟨by omega⟩, ⟨Below.refl _ _⟩, ⟨fun j hj => absurd hj (Nat.not_lt_zero _)⟩⟩
    case round =>
      obtain ⟨kk, rfl, HK, HG, HB, HQ⟩ := hrel
      by_cases hlt : kk < n
      · have hltz : (kk : Int) < (n : Int) := by omega
        have hcell : wr.cell? (ad.add kk) = some (vals kk) := pw_cell_below HB.out (HC.out kk hlt)
        have hcall := am_ (HP.out kk hlt)
        generalize hy : vals kk = y at hcell hcall
        clear hy
        cases hq : p kk with
        | true =>
          rw [hq] at hcall
          have HQ1 := am_ hq
          clear hq
          go_wp2_with (go_at_fn g; refine (hcall.out _ (by exact HB.out)).mono ?_; rintro e w' ⟨rfl, hb⟩; have HB2 := am_ hb; clear hb)
          go_ret
          exact ⟨kk, rfl, hit_at hlt HQ1.out, below_then HB.out HB.out.size HB2.out⟩
        | false =>
          rw [hq] at hcall
          have HQ1 := am_ hq
          clear hq
          go_wp2_with (go_at_fn g; refine (hcall.out _ (by exact HB.out)).mono ?_; rintro e w' ⟨rfl, hb⟩; have HB2 := am_ hb; clear hb)
          go_roundg (n - (kk + 1))
          case measure => have := HG.out; omega
          case rel =>
            refine ⟨kk + 1, by go_num, ⟨by omega⟩, ⟨by omega⟩, ⟨below_then HB.out HB.out.size HB2.out⟩, ⟨fun j hj => ?_⟩⟩
            by_cases e : j = kk
            · subst e; exact HQ1.out
            · exact HQ.out j (by omega)
      · have hltz : ¬ (kk : Int) < (n : Int) := by omega
        have e : kk = n := by have := HK.out; omega
        subst e
        go_wp2
        go_ret
        exact ⟨-1, rfl, hit_none HQ.out, HB.out⟩
set_option maxHeartbeats 2000000 in
theorem containsRows {vals : Nat → Value} {p : Nat → Bool} (A : Option Addr) (n c g : Nat) (lb : Array Value) (eg : ∀ args w, (callFunc g args).run Try.prog w = .ok (.enter g args) w) (w : World) (hn : n ≤ 9223372036854775807)
    (hc : 0 < n → ∃ ad : Addr, A = some ad ∧ ∀ j, j < n → w.cell? (ad.add j) = some (vals j))
    (hp : ∀ j, j < n → ∀ W, Below w.heap.size w W → Calls Try.prog g (#[vals j] ++ lb) W fun e W' => e = .returned (.bool (p j)) ∧ Below W.heap.size W W') :
    Calls Try.prog 50 #[.slice A n c, .func (.func g) #[] lb] w fun e w' => e = .returned (.bool ((List.range n).any p)) ∧ Below w.heap.size w w' := by
  have h := indexRows A n c g lb eg w hn hc hp
  clear hc hp eg
  have HC := am_ h
  clear h
  go_enter Try.func50, Try.ntmps50
  go_wp2_with (go_at_call 61; refine HC.out.mono ?_; rintro e w' ⟨r, rfl, hr, hb⟩; have HR := am_ hr; clear hr; have HB := am_ hb; clear hb)
  go_ret
  have e := HR.out
  unfold Hit at e
  rw [← e]
  exact ⟨rfl, HB.out⟩
set_option maxHeartbeats 2000000 in
theorem indexNums {vals : Nat → Value} {p : Nat → Bool} (A : Option Addr) (n c g : Nat) (lb : Array Value) (eg : ∀ args w, (callFunc g args).run Try.prog w = .ok (.enter g args) w) (w : World) (hn : n ≤ 9223372036854775807)
    (hc : 0 < n → ∃ ad : Addr, A = some ad ∧ ∀ j, j < n → w.cell? (ad.add j) = some (vals j))
    (hp : ∀ j, j < n → ∀ W, Below w.heap.size w W → Calls Try.prog g (#[vals j] ++ lb) W fun e W' => e = .returned (.bool (p j)) ∧ Below W.heap.size W W') :
    Calls Try.prog 62 #[.slice A n c, .func (.func g) #[] lb] w (Told (Hit p n) w) := by
  rcases Nat.eq_zero_or_pos n with h0 | h0
  · subst h0
    clear hc hp
    go_enter Try.func62, Try.ntmps62
    go_wp2
    go_loopg [5, 8] 0 (fun _ _ s8 wr => s8 = .int .i64 0 ∧ wr = w)
    case atStart => exact ⟨rfl, rfl⟩
    case round =>
      obtain ⟨rfl, rfl⟩ := hrel
      go_wp2
      go_ret
      exact ⟨-1, rfl, hit_none (fun j hj => by omega), Below.refl _ _⟩
  · obtain ⟨ad, rfl, hcc⟩ := hc h0
    clear hc
    have HC := am_ hcc
    clear hcc
    have HP := am_ hp
    clear hp
    go_enter Try.func62, Try.ntmps62
    go_wp2
    go_loopg [5, 8] n (fun gg _ s8 wr => ∃ kk : Nat, s8 = .int .i64 kk ∧ Aside0 (kk ≤ n) ∧ Aside0 (n - kk ≤ gg) ∧ Aside0 (Below w.heap.size w wr) ∧ Aside0 (∀ j, j < kk → p j = false))
    case atStart => exact ⟨0, rfl, ⟨Nat.zero_le _⟩, ⟨by omega⟩, ⟨Below.refl _ _⟩, ⟨fun j hj => absurd hj (Nat.not_lt_zero _)⟩⟩
    case round =>
      obtain ⟨kk, rfl, HK, HG, HB, HQ⟩ := hrel
      by_cases hlt : kk < n
      · have hltz : (kk : Int) < (n : Int) := by omega
        have hcell : wr.cell? (ad.add kk) = some (vals kk) := pw_cell_below HB.out (HC.out kk hlt)
        have hcall := am_ (HP.out kk hlt)
        generalize hy : vals kk = y at hcell hcall
        clear hy
        cases hq : p kk with
        | true =>
          rw [hq] at hcall
          have HQ1 := am_ hq
          clear hq
          go_wp2_with (go_at_fn g; refine (hcall.out _ (by exact HB.out)).mono ?_; rintro e w' ⟨rfl, hb⟩; have HB2 := am_ hb; clear hb)
          go_ret
          exact ⟨kk, rfl, hit_at hlt HQ1.out, below_then HB.out HB.out.size HB2.out⟩
        | false =>
          rw [hq] at hcall
          have HQ1 := am_ hq
          clear hq
          go_wp2_with (go_at_fn g; refine (hcall.out _ (by exact HB.out)).mono ?_; rintro e w' ⟨rfl, hb⟩; have HB2 := am_ hb; clear hb)
          go_roundg (n - (kk + 1))
          case measure => have := HG.out; omega
          case rel =>
            refine ⟨kk + 1, by go_num, ⟨by omega⟩, ⟨by omega⟩, ⟨below_then HB.out HB.out.size HB2.out⟩, ⟨fun j hj => ?_⟩⟩
            by_cases e : j = kk
            · subst e; exact HQ1.out
            · exact HQ.out j (by omega)
      · have hltz : ¬ (kk : Int) < (n : Int) := by omega
        have e : kk = n := by have := HK.out; omega
        subst e
        go_wp2
        go_ret
        exact ⟨-1, rfl, hit_none HQ.out, HB.out⟩
set_option maxHeartbeats 2000000 in
theorem containsNums {vals : Nat → Value} {p : Nat → Bool} (A : Option Addr) (n c g : Nat) (lb : Array Value) (eg : ∀ args w, (callFunc g args).run Try.prog w = .ok (.enter g args) w) (w : World) (hn : n ≤ 9223372036854775807)
    (hc : 0 < n → ∃ ad : Addr, A = some ad ∧ ∀ j, j < n → w.cell? (ad.add j) = some (vals j))
    (hp : ∀ j, j < n → ∀ W, Below w.heap.size w W → Calls Try.prog g (#[vals j] ++ lb) W fun e W' => e = .returned (.bool (p j)) ∧ Below W.heap.size W W') :
    Calls Try.prog 52 #[.slice A n c, .func (.func g) #[] lb] w fun e w' => e = .returned (.bool ((List.range n).any p)) ∧ Below w.heap.size w w' := by
  have h := indexNums A n c g lb eg w hn hc hp
  clear hc hp eg
  have HC := am_ h
  clear h
  go_enter Try.func52, Try.ntmps52
  go_wp2_with (go_at_call 62; refine HC.out.mono ?_; rintro e w' ⟨r, rfl, hr, hb⟩; have HR := am_ hr; clear hr; have HB := am_ hb; clear hb)
  go_ret
  have e := HR.out
  unfold Hit at e
  rw [← e]
  exact ⟨rfl, HB.out⟩
def badState (n q : Int) : Bool := !decide (0 ≤ q) || !decide (q ≤ n - 1)
def badRow (n : Int) (row : List Int) : Bool := decide (row.length ≠ 3) || row.any (badState n)
def validD (acc : List Bool) (nxt : List (List Int)) : Bool := decide (1 ≤ acc.length) && decide (acc.length ≤ 40) && decide (nxt.length = acc.length) && !(nxt.any (badRow acc.length))
set_option maxHeartbeats 2000000 in
theorem inner (q : Int) (n : Int) (B : Nat) (hn0 : 1 ≤ n) (hn : n ≤ 40) (w : World) (hc : w.cell? ⟨B, 0, none⟩ = some (.int .i64 n)) :
    Calls Try.prog 53 #[.int .i64 q, .pointer (some ⟨B, 0, none⟩)] w fun e w' => e = .returned (.bool (badState n q)) ∧ Below w.heap.size w w' := by
  have H1 := fun W => impl_within.calls q 0 (n - 1) (decide (0 ≤ q) && decide (q ≤ n - 1)) W (by unfold impl_within.f; by_cases h : q ≥ 0 <;> simp [h])
  have HC := am_ H1
  clear H1
  go_enter Try.func53, Try.ntmps53
  go_wp2_with (go_at_call 49; refine (HC.out _).mono ?_; rintro e w' ⟨rfl, ⟨m, rfl⟩⟩)
  go_ret
  exact ⟨rfl, (Drawn0.below ⟨⟨_, rfl⟩⟩)⟩
theorem cellsInt {k : IntKind} {w : World} {A : Option Addr} {n : Nat} {xs : List Int} (h : Kd.C (Kd.int k) w A n xs) : 0 < n → ∃ ad : Addr, A = some ad ∧ ∀ j, j < n → w.cell? (ad.add j) = some (.int k (xs.getD j 0)) := by
  intro h0
  obtain ⟨ad, e, hc⟩ := h.2.2 h0
  refine ⟨ad, e, fun j hj => ?_⟩
  have hl : j < xs.length := by rw [h.1]; exact hj
  obtain ⟨c, hs, hr, hcell⟩ := hc j xs[j] (List.getElem?_eq_getElem hl)
  have hr' : c = [.int k xs[j]] := hr
  subst hr'
  have := hcell 0 _ rfl
  rw [show (Kd.int k).sz = 1 from rfl, Nat.mul_one, Nat.add_zero] at this
  rw [this, List.getD_eq_getElem?_getD, List.getElem?_eq_getElem hl]
  rfl
theorem cellsRows {e : Nat} {w : World} {A : Option Addr} {n : Nat} {xs : List (List Int)} (h : Kd.C (Kd.slice e (Kd.int .i64)) w A n xs) : 0 < n → ∃ ad : Addr, A = some ad ∧ ∀ j, j < n → ∃ A0 c0, w.cell? (ad.add j) = some (.slice A0 (xs.getD j []).length c0) ∧ Kd.C (Kd.int .i64) w A0 (xs.getD j []).length (xs.getD j []) := by
  intro h0
  obtain ⟨ad, ea, hc⟩ := h.2.2 h0
  refine ⟨ad, ea, fun j hj => ?_⟩
  have hl : j < xs.length := by rw [h.1]; exact hj
  obtain ⟨c, hs, hr, hcell⟩ := hc j xs[j] (List.getElem?_eq_getElem hl)
  obtain ⟨A0, c0, rfl, h1, h2⟩ := hr
  have := hcell 0 _ rfl
  rw [show (Kd.slice e (Kd.int .i64)).sz = 1 from rfl, Nat.mul_one, Nat.add_zero] at this
  rw [List.getD_eq_getElem?_getD, List.getElem?_eq_getElem hl]
  exact ⟨A0, c0, this, h2⟩
theorem any_range {α : Type} (z : α) (xs : List α) (f : α → Bool) : (List.range xs.length).any (fun j => f (xs.getD j z)) = xs.any f := by
  rw [Bool.eq_iff_iff, List.any_eq_true, List.any_eq_true]
  constructor
  · rintro ⟨j, hj, h⟩
    have hl := List.mem_range.mp hj
    rw [List.getD_eq_getElem?_getD, List.getElem?_eq_getElem hl] at h
    exact ⟨xs[j], List.getElem_mem _, h⟩
  · rintro ⟨x, hx, h⟩
    obtain ⟨j, hj, rfl⟩ := List.mem_iff_getElem.mp hx
    refine ⟨j, List.mem_range.mpr hj, ?_⟩
    rw [List.getD_eq_getElem?_getD, List.getElem?_eq_getElem hj]
    exact h
set_option maxHeartbeats 2000000 in
theorem outer (row : List Int) (A : Option Addr) (c : Nat) (n : Int) (B : Nat) (hn0 : 1 ≤ n) (hn : n ≤ 40) (w : World) (hB : B < w.heap.size) (hc : w.cell? ⟨B, 0, none⟩ = some (.int .i64 n)) (hr : Kd.C (Kd.int .i64) w A row.length row) :
    Calls Try.prog 51 #[.slice A row.length c, .pointer (some ⟨B, 0, none⟩)] w fun e w' => e = .returned (.bool (badRow n row)) ∧ Below w.heap.size w w' := by
  have hlen := hr.2.1
  by_cases h3 : row.length = 3
  · have hp : ∀ j, j < row.length → ∀ W, Below w.heap.size w W → Calls Try.prog 53 (#[.int .i64 (row.getD j 0)] ++ #[.pointer (some ⟨B, 0, none⟩)]) W fun e W' => e = .returned (.bool (badState n (row.getD j 0))) ∧ Below W.heap.size W W' :=
      fun j hj W hb => inner _ n B hn0 hn W ((hb.cell (p := ⟨B, 0, none⟩) hB).trans hc)
    have hcon := fun W (hb : Below w.heap.size w W) => containsNums (vals := fun j => .int .i64 (row.getD j 0)) (p := fun j => badState n (row.getD j 0)) A row.length c 53 #[.pointer (some ⟨B, 0, none⟩)]
      (enters_of Try.func53 (by kernel_rfl) rfl) W hlen (cellsInt (Kd.C_below hr hb)) (fun j hj W' hb' => hp j hj W' (below_then hb hb.size hb'))
    have HC := am_ hcon
    have e3 : badRow n row = (List.range row.length).any (fun j => badState n (row.getD j 0)) := by
      rw [any_range 0 row (badState n)]
      simp [badRow, h3]
    have E3 := am_ e3
    clear hcon hp hr hc e3
    have t3 : ((row.length : Int) != 3) = false := by rw [bne_eq_false_iff_eq]; omega
    clear h3 hlen
    go_enter Try.func51, Try.ntmps51
    go_wp2_with (go_at_call 52; refine (HC.out _ (by exact Below.refl _ _)).mono ?_; rintro e w' ⟨rfl, hb⟩; have HB := am_ hb; clear hb)
    go_ret
    rw [E3.out]
    exact ⟨rfl, HB.out⟩
  · have e3 : badRow n row = true := by simp [badRow, h3]
    have E3 := am_ e3
    have t3 : ((row.length : Int) != 3) = true := by rw [bne_iff_ne]; omega
    clear h3 e3 hr
    go_enter Try.func51, Try.ntmps51
    go_wp2
    go_ret
    rw [E3.out]
    exact ⟨rfl, Below.refl _ _⟩
theorem rowsContain (A1 : Option Addr) (c1 : Nat) (l1 : List (List Int)) (n : Int) (hn0 : 1 ≤ n) (hn : n ≤ 40) (w : World) (hr1 : Kd.C (Kd.slice 3 (Kd.int .i64)) w A1 l1.length l1) (B : Nat) (W : World) (hb : Below w.heap.size w W) (hB : B < W.heap.size) (hc : W.cell? ⟨B, 0, none⟩ = some (.int .i64 n)) :
    Calls Try.prog 50 #[.slice A1 l1.length c1, .func (.func 51) #[] #[.pointer (some ⟨B, 0, none⟩)]] W fun e w' => e = .returned (.bool (l1.any (badRow n))) ∧ Below W.heap.size W w' := by
  have hl := hr1.2.1
  have hW := Kd.C_below hr1 hb
  rw [← any_range [] l1 (badRow n)]
  rcases Nat.eq_zero_or_pos l1.length with h0 | h0
  · refine containsRows (vals := fun _ => .bool false) (p := fun j => badRow n (l1.getD j [])) A1 l1.length c1 51 _ (enters_of Try.func51 (by kernel_rfl) rfl) W hl (fun h => by omega) (fun j hj => by omega)
  · obtain ⟨ad, rfl, hcell⟩ := cellsRows hW h0
    refine containsRows (vals := fun j => (W.cell? (ad.add j)).getD (.bool false)) (p := fun j => badRow n (l1.getD j [])) _ l1.length c1 51 _ (enters_of Try.func51 (by kernel_rfl) rfl) W hl (fun _ => ⟨ad, rfl, fun j hj => ?_⟩) (fun j hj W' hb' => ?_)
    · obtain ⟨Aj, cj, h1, _⟩ := hcell j hj
      rw [h1]
      rfl
    · obtain ⟨Aj, cj, h1, h2⟩ := hcell j hj
      simp only [h1, Option.getD_some]
      exact outer (l1.getD j []) Aj cj n B hn0 hn W' (Nat.lt_of_lt_of_le hB hb'.size) ((hb'.cell (p := ⟨B, 0, none⟩) hB).trans hc) (Kd.C_below h2 hb')
set_option maxHeartbeats 2000000 in
theorem validCalls (A0 : Option Addr) (c0 : Nat) (l0 : List Bool) (A1 : Option Addr) (c1 : Nat) (l1 : List (List Int)) (w : World) (hr0 : Kd.C Kd.bool w A0 l0.length l0) (hr1 : Kd.C (Kd.slice 3 (Kd.int .i64)) w A1 l1.length l1) :
    Calls Try.prog 31 #[.agg #[.slice A0 l0.length c0, .slice A1 l1.length c1]] w fun e w' => e = .returned (.bool (validD l0 l1)) ∧ Below w.heap.size w w' := by
  have hu := Try.underlying28
  have hl0 := hr0.2.1
  have hl1 := hr1.2.1
  have hwi := fun W => impl_within.calls (l0.length : Int) 1 40 (decide (1 ≤ l0.length) && decide (l0.length ≤ 40)) W (by
    unfold impl_within.f
    by_cases h : 1 ≤ l0.length
    · rw [if_pos (show (l0.length : Int) ≥ 1 by omega), decide_eq_true h, Bool.true_and]
      exact congrArg some (decide_eq_decide.mpr (by omega))
    · rw [if_neg (show ¬ (l0.length : Int) ≥ 1 by omega), decide_eq_false h, Bool.false_and])
  have hV := validD.eq_def l0 l1
  by_cases h1 : (decide (1 ≤ l0.length) && decide (l0.length ≤ 40)) = true
  · rw [h1] at hwi
    by_cases h2 : l1.length = l0.length
    · have hcon := rowsContain A1 c1 l1 (l0.length : Int) (by simp at h1; omega) (by simp at h1; omega) w hr1
      have t2 : ((l1.length : Int) != (l0.length : Int)) = false := by rw [bne_eq_false_iff_eq]; omega
      rw [h1, decide_eq_true h2, Bool.true_and, Bool.true_and] at hV
      have HW := am_ hwi
      have HC := am_ hcon
      have HV := am_ hV
      clear hwi hcon h1 h2 hr0 hr1 hl0 hl1 hV
      go_enter Try.func31, Try.ntmps31
      go_wp2_with (first | (go_at_call 49; refine (HW.out _).mono ?_; rintro e w' ⟨rfl, ⟨m, rfl⟩⟩) | (go_at_call 50; refine (HC.out (w.heap.size + 1) _ ?q1 ?q2 ?q3).mono ?_; (case q1 => exact pw_below_drewN (below_alloc (below_alloc (Below.refl _ _) _) _) _); (case q2 => simp); (case q3 => simp); rintro e w' ⟨rfl, hb⟩; have HB := am_ hb; clear hb))
      go_ret
      rw [HV.out]
      exact ⟨rfl, below_then (pw_below_drewN (below_alloc (below_alloc (Below.refl _ _) _) _) _) (by simp; omega) HB.out⟩
    · have t2 : ((l1.length : Int) != (l0.length : Int)) = true := by rw [bne_iff_ne]; omega
      rw [h1, decide_eq_false h2, Bool.true_and, Bool.false_and] at hV
      have HW := am_ hwi
      have HV := am_ hV
      clear hwi h1 h2 hr0 hr1 hl0 hl1 hV
      go_enter Try.func31, Try.ntmps31
      go_wp2_with (go_at_call 49; refine (HW.out _).mono ?_; rintro e w' ⟨rfl, ⟨m, rfl⟩⟩)
      go_ret
      rw [HV.out]
      exact ⟨rfl, pw_below_drewN (below_alloc (below_alloc (Below.refl _ _) _) _) _⟩
  · have h1' : (decide (1 ≤ l0.length) && decide (l0.length ≤ 40)) = false := by simpa using h1
    rw [h1'] at hwi
    rw [h1', Bool.false_and, Bool.false_and] at hV
    have HW := am_ hwi
    have HV := am_ hV
    clear hwi h1 h1' hr0 hr1 hl0 hl1 hV
    go_enter Try.func31, Try.ntmps31
    go_wp2_with (go_at_call 49; refine (HW.out _).mono ?_; rintro e w' ⟨rfl, ⟨m, rfl⟩⟩)
    go_ret
    rw [HV.out]
    exact ⟨rfl, pw_below_drewN (below_alloc (below_alloc (Below.refl _ _) _) _) _⟩
end Go.Proofs.Ytpgdhpnmagmooaa.Wk
end
section
namespace Go.Proofs.Ytpgdhpnmagmooaa.Rk
open Go.RowKit Go.Deep Go.ChangeShapes Go.WideShapes Go.Proofs.YtpgdhpnmagmooaaW.PrintWords Go.Proofs.YtpgdhpnmagmooaaW.PrintLast Go.Proofs.YtpgdhpnmagmooaaW.PrintMore
set_option linter.unusedVariables false
set_option linter.unusedSimpArgs false
variable {H : Type} {enc : TypeId × Value → H} {P : Program} {w : World} {base : Nat} {spare : Nat → Bool} {held : Bool} {α : Type}
def Opens (enc : TypeId × Value → H) (P : Program) (w : World) (base : Nat) (spare : Nat → Bool) (held : Bool) (K : Kd α) (G : α → Prop) (t : TypeId) : Prop :=
  ∀ (fuel : Nat) (cs : List Value) (x : DataW H × List MemPlace), DataW.trod enc P w base spare held fuel t cs = some x → ∃ a, K.K w a cs ∧ G a
def wfI (k : IntKind) (n : Int) : Prop := (Lit.int k n).wf = true
def rowsOf (G : α → Prop) (xs : List α) : Prop := xs.length ≤ 9223372036854775807 ∧ ∀ x ∈ xs, G x
theorem opens_int {k : IntKind} {t : TypeId} (ht : P.underlying t = some (.int k)) : Opens enc P w base spare held (Kd.int k) (wfI k) t := by
  intro fuel cs x h
  obtain ⟨n, rfl, _, h2⟩ := DataW.trod_int ht h
  exact ⟨n, rfl, h2⟩
theorem opens_bool {t : TypeId} (ht : P.underlying t = some .bool) : Opens enc P w base spare held Kd.bool (fun _ => True) t := by
  intro fuel cs x h
  obtain ⟨b, rfl, _⟩ := DataW.trod_bool ht h
  exact ⟨b, rfl, trivial⟩
theorem opens_slice [Inhabited α] {K : Kd α} {G : α → Prop} {t e : TypeId} (q : Nat) (ht : P.underlying t = some (.slice e)) (hc : P.cellsOf e = 1) (hs : K.sz = 1) (h : Opens enc P w base spare held K G e) : Opens enc P w base spare held (Kd.slice q K) (rowsOf G) t := by
  intro fuel cs x hx
  rcases open_slice1 ht hc hx with ⟨rfl, _⟩ | ⟨a, len, cap, m, n, V, D, Pl, rfl, _, hl, hm, hmm, _, hx⟩
  · exact ⟨[], ⟨none, 0, rfl, Nat.le_refl _, rfl, by simp, fun h0 => absurd h0 (Nat.lt_irrefl _)⟩, by simp, fun x hx => by cases hx⟩
  · have hle : len ≤ m := by rw [hmm]; split <;> omega
    obtain ⟨f, hf⟩ := choose_lt (n := len) (p := fun i y => K.K w y [V i] ∧ G y) (fun i hi => h _ _ _ (hx i (by omega)).2)
    have hlen : ((List.range len).map f).length = len := by simp
    have hbig : len ≤ 9223372036854775807 := by unfold maxLen at hm; omega
    refine ⟨(List.range len).map f, ⟨some a, cap, by rw [hlen], by rw [hlen]; exact hl, hlen.symm ▸ rfl, ?_, fun _ => ⟨a, rfl, fun j p hj => ?_⟩⟩, by rw [hlen]; exact hbig, fun x hx => ?_⟩
    · rw [hlen]; exact hbig
    · have hjl : j < len := by
        have := (List.getElem?_eq_some_iff.1 hj).1
        rwa [hlen] at this
      have hp : f j = p := by
        rw [List.getElem?_map, List.getElem?_range hjl] at hj
        simpa using hj
      subst hp
      refine ⟨[V j], hs.symm, (hf j hjl).1, fun i u hu => ?_⟩
      cases i with
      | zero =>
        have : V j = u := by simpa using hu
        subst this
        rw [hs, Nat.mul_one, Nat.add_zero]
        exact (hx j (by omega)).1
      | succ i => simp at hu
    · obtain ⟨i, hi, rfl⟩ := List.mem_map.mp hx
      exact (hf i (List.mem_range.mp hi)).2
theorem slice_of {K : Kd α} {q : Nat} {v : Value} {xs : List α} (h : (Kd.slice q K).K w xs [v]) : ∃ A c, v = .slice A xs.length c ∧ xs.length ≤ c ∧ K.C w A xs.length xs := by
  obtain ⟨A, c, e, h1, h2⟩ := h
  exact ⟨A, c, by simpa using e, h1, h2⟩
end Go.Proofs.Ytpgdhpnmagmooaa.Rk
end
section
namespace Go.Proofs.Ytpgdhpnmagmooaa.P
open Go.RowKit Go.Proofs.YtpgdhpnmagmooaaW.PrintWords Go.Proofs.YtpgdhpnmagmooaaW.PrintLast Go.Proofs.YtpgdhpnmagmooaaW.PrintMore
attribute [local go_sem] max2_int min2_int max_two min_two max_three min_three max_four min_four
set_option linter.unusedVariables false
set_option linter.unusedSimpArgs false
def laws_eqBoolS.l0 : Nat → List Bool → List Bool → Int → Option (Bool)
  | 0, _, _, _ => none
  | k + 1, x0, x1, x5 => if x5 < (x0.length : Int) then (if 0 ≤ x5 then (if x5 < (x1.length : Int) then (if ((rdOf false x0 x5) != (rdOf false x1 x5)) = true then (some false) else (laws_eqBoolS.l0 k x0 x1 (wrap64 (x5 + 1)))) else (none)) else (none)) else (some true)
def laws_eqBoolS.f (k : Nat) (l0 : List Bool) (l1 : List Bool) : Option (Bool) := if (l0.length : Int) = (l1.length : Int) then (laws_eqBoolS.l0 k l0 l1 0) else (some false)
theorem laws_eqBoolS.mono_l : ∀ k, (∀ y0 y1 y2, LeO (laws_eqBoolS.l0 k y0 y1 y2) (laws_eqBoolS.l0 (k + 1) y0 y1 y2))
  | 0 => fun _ _ _ r h => by simp [laws_eqBoolS.l0] at h
  | k + 1 => by
    have ih0 := laws_eqBoolS.mono_l k
    · intro y0 y1 y2
      unfold laws_eqBoolS.l0
      repeat' first
      | (with_reducible exact ih0 _ _ _)
      | (with_reducible exact LeO.refl _)
      | (with_reducible exact LeO.none _)
      | (with_reducible refine LeO.ite ?_ ?_)
      | (with_reducible refine LeO.bind ?_ (fun _ => ?_))
      | exact ih0 _ _ _
      | exact LeO.none _
      | refine LeO.ite ?_ ?_
      | refine LeO.bind ?_ (fun _ => ?_)
theorem laws_eqBoolS.mono : ∀ a0 a1 k, LeO (laws_eqBoolS.f k a0 a1) (laws_eqBoolS.f (k + 1) a0 a1) := by
  intro a0 a1 k
  have ih0 := laws_eqBoolS.mono_l k
  unfold laws_eqBoolS.f
  repeat' first
      | (with_reducible exact ih0 _ _ _)
      | (with_reducible exact LeO.refl _)
      | (with_reducible exact LeO.none _)
      | (with_reducible refine LeO.ite ?_ ?_)
      | (with_reducible refine LeO.bind ?_ (fun _ => ?_))
      | exact ih0 _ _ _
      | exact LeO.none _
      | refine LeO.ite ?_ ?_
      | refine LeO.bind ?_ (fun _ => ?_)
set_option maxHeartbeats 8000000 in
set_option maxRecDepth 100000 in
theorem laws_eqBoolS.calls (k : Nat) (A0 : Option Addr) (c0 : Nat) (l0 : List Bool) (A1 : Option Addr) (c1 : Nat) (l1 : List Bool) (r : Bool) (w : World) (hr0 : Kd.C Kd.bool w A0 l0.length l0) (hc0 : l0.length ≤ c0) (hr1 : Kd.C Kd.bool w A1 l1.length l1) (hc1 : l1.length ≤ c1) (h : laws_eqBoolS.f k l0 l1 = some r) :
    Calls Try.prog 13 #[.slice A0 l0.length c0, .slice A1 l1.length c1] w fun e w' => e = .returned (.bool r) ∧ Drawn0 w w' := by
  have HR0 := am_ hr0
  have HC0 := am_ hc0
  clear hr0 hc0
  have HR1 := am_ hr1
  have HC1 := am_ hc1
  clear hr1 hc1
  have H : (if (l0.length : Int) = (l1.length : Int) then (laws_eqBoolS.l0 k l0 l1 0) else (some false)) = some r := h
  clear h
  by_cases c3 : (l0.length : Int) = (l1.length : Int)
  · rw [if_pos c3] at H
    have c3b0 : ((l0.length : Int) == (l1.length : Int)) = true := beq_iff_eq.mpr c3
    have c3b1 : ((l0.length : Int) != (l1.length : Int)) = false := bne_eq_false_iff_eq.mpr c3
    have c3b2 : (l0.length == l1.length) = true := by first | simpa using c3 | (simp at c3 ⊢; omega)
    clear c3
    have H' := am_ H
    clear H
    go_enter Try.func13, Try.ntmps13
    go_wp2
    repeat (go_quiet (fail); try go_wp2)
    go_loopg [5] k (fun kq v5 w' => ∃ (aa : Int), v5 = .int .i64 aa ∧ Aside0 (laws_eqBoolS.l0 kq l0 l1 aa = some r) ∧ Aside0 (kq ≤ k) ∧ Drawn0 w w')
    case atStart => exact ⟨(0), (by first | rfl | (simp; done) | (simp [*]; done)), H', ⟨Nat.le_refl _⟩, by repeat (first | exact Drawn0.refl _ | apply Drawn0.step)⟩
    case round =>
      clear H'
      try clear c1
      try clear p2
      try clear c3
      try clear c3b0
      try clear c3b1
      try clear c3b2
      obtain ⟨aa, rfl, HA, HK1, ⟨m1, rfl⟩⟩ := hrel
      cases gk with
      | zero => exact absurd HA.out (by simp [laws_eqBoolS.l0])
      | succ k1 =>
        have H := HA.out
        clear HA
        simp only [laws_eqBoolS.l0] at H
        by_cases c4 : aa < (l0.length : Int)
        · rw [if_pos c4] at H
          have c4b0 : decide (aa < (l0.length : Int)) = true := decide_eq_true c4
          clear c4
          by_cases c5 : 0 ≤ aa
          · rw [if_pos c5] at H
            have c5b0 : decide (0 ≤ aa) = true := decide_eq_true c5
            clear c5
            by_cases c6 : aa < (l1.length : Int)
            · rw [if_pos c6] at H
              have c6b0 : decide (aa < (l1.length : Int)) = true := decide_eq_true c6
              clear c6
              by_cases c7 : ((rdOf false l0 aa) != (rdOf false l1 aa)) = true
              · rw [if_pos c7] at H
                have c7b0 : ((rdOf false l0 aa) != (rdOf false l1 aa)) = true := c7
                (try (have c7b1 : decide ((rdOf false l0 aa) = (rdOf false l1 aa)) = false := by simpa using c7))
                (try (have c7b2 : ((rdOf false l0 aa) == (rdOf false l1 aa)) = false := by simpa using c7))
                (try (have c7b3 : ¬ ((rdOf false l0 aa) = (rdOf false l1 aa)) := by simpa using c7))
                clear c7
                obtain rfl := Option.some.inj H
                simp only [Option.some.injEq, Prod.mk.injEq] at H
                obtain ⟨rfl⟩ := H
                have p230 : 0 ≤ (aa : Int) := of_decide_eq_true ah_
                have q230 : aa < (l0.length : Int) := of_decide_eq_true ah_
                obtain ⟨aJ, e230, aD⟩ := Kd.at_bool HR0.out aa p230 q230
                cases e230
                replace p230 := eq_true p230
                replace q230 := eq_true q230
                have p231 : 0 ≤ (aa : Int) := of_decide_eq_true ah_
                have q231 : aa < (l1.length : Int) := of_decide_eq_true ah_
                obtain ⟨aK, e231, aE⟩ := Kd.at_bool HR1.out aa p231 q231
                cases e231
                replace p231 := eq_true p231
                replace q231 := eq_true q231
                go_wp2
                repeat (go_quiet (fail); try go_wp2)
                go_ret
                exact ⟨by first | rfl | (simp; done) | (simp [*]; done), by repeat (first | exact Drawn0.refl _ | apply Drawn0.step)⟩
              · rw [if_neg c7] at H
                have c7b0 : ((rdOf false l0 aa) != (rdOf false l1 aa)) = false := by simpa using c7
                (try (have c7b1 : decide ((rdOf false l0 aa) = (rdOf false l1 aa)) = true := by simpa using c7))
                (try (have c7b2 : ((rdOf false l0 aa) == (rdOf false l1 aa)) = true := by simpa using c7))
                clear c7
                have H' := am_ H
                clear H
                have p230 : 0 ≤ (aa : Int) := of_decide_eq_true ah_
                have q230 : aa < (l0.length : Int) := of_decide_eq_true ah_
                obtain ⟨aJ, e230, aD⟩ := Kd.at_bool HR0.out aa p230 q230
                cases e230
                replace p230 := eq_true p230
                replace q230 := eq_true q230
                have p231 : 0 ≤ (aa : Int) := of_decide_eq_true ah_
                have q231 : aa < (l1.length : Int) := of_decide_eq_true ah_
                obtain ⟨aK, e231, aE⟩ := Kd.at_bool HR1.out aa p231 q231
                cases e231
                replace p231 := eq_true p231
                replace q231 := eq_true q231
                go_wp2
                repeat (go_quiet (fail); try go_wp2)
                go_roundg k1
                case measure => have := HK1.out; omega
                case rel => exact ⟨(wrap64 (aa + 1)), (by first | rfl | (simp; done) | (simp [*]; done)), H', ⟨by have := HK1.out; omega⟩, by repeat (first | exact Drawn0.refl _ | apply Drawn0.step)⟩
            · rw [if_neg c6] at H
              exact absurd H (by simp)
          · rw [if_neg c5] at H
            exact absurd H (by simp)
        · rw [if_neg c4] at H
          have c4b0 : decide (aa < (l0.length : Int)) = false := decide_eq_false c4
          clear c4
          obtain rfl := Option.some.inj H
          simp only [Option.some.injEq, Prod.mk.injEq] at H
          obtain ⟨rfl⟩ := H
          go_wp2
          repeat (go_quiet (fail); try go_wp2)
          go_ret
          exact ⟨by first | rfl | (simp; done) | (simp [*]; done), by repeat (first | exact Drawn0.refl _ | apply Drawn0.step)⟩
  · rw [if_neg c3] at H
    have c3b0 : ((l0.length : Int) == (l1.length : Int)) = false := beq_eq_false_iff_ne.mpr c3
    have c3b1 : ((l0.length : Int) != (l1.length : Int)) = true := bne_iff_ne.mpr c3
    have c3b2 : (l0.length == l1.length) = false := by first | simpa using c3 | (simp at c3 ⊢; omega)
    obtain rfl := Option.some.inj H
    simp only [Option.some.injEq, Prod.mk.injEq] at H
    obtain ⟨rfl⟩ := H
    go_enter Try.func13, Try.ntmps13
    go_wp2
    repeat (go_quiet (fail); try go_wp2)
    go_ret
    exact ⟨by first | rfl | (simp; done) | (simp [*]; done), by repeat (first | exact Drawn0.refl _ | apply Drawn0.step)⟩
def laws_eqIntS.l0 : Nat → List Int → List Int → Int → Option (Bool)
  | 0, _, _, _ => none
  | k + 1, x0, x1, x5 => if x5 < (x0.length : Int) then (if 0 ≤ x5 then (if x5 < (x1.length : Int) then (if (rd x0 x5) = (rd x1 x5) then (laws_eqIntS.l0 k x0 x1 (wrap64 (x5 + 1))) else (some false)) else (none)) else (none)) else (some true)
def laws_eqIntS.f (k : Nat) (l0 : List Int) (l1 : List Int) : Option (Bool) := if (l0.length : Int) = (l1.length : Int) then (laws_eqIntS.l0 k l0 l1 0) else (some false)
theorem laws_eqIntS.mono_l : ∀ k, (∀ y0 y1 y2, LeO (laws_eqIntS.l0 k y0 y1 y2) (laws_eqIntS.l0 (k + 1) y0 y1 y2))
  | 0 => fun _ _ _ r h => by simp [laws_eqIntS.l0] at h
  | k + 1 => by
    have ih0 := laws_eqIntS.mono_l k
    · intro y0 y1 y2
      unfold laws_eqIntS.l0
      repeat' first
      | (with_reducible exact ih0 _ _ _)
      | (with_reducible exact LeO.refl _)
      | (with_reducible exact LeO.none _)
      | (with_reducible refine LeO.ite ?_ ?_)
      | (with_reducible refine LeO.bind ?_ (fun _ => ?_))
      | exact ih0 _ _ _
      | exact LeO.none _
      | refine LeO.ite ?_ ?_
      | refine LeO.bind ?_ (fun _ => ?_)
theorem laws_eqIntS.mono : ∀ a0 a1 k, LeO (laws_eqIntS.f k a0 a1) (laws_eqIntS.f (k + 1) a0 a1) := by
  intro a0 a1 k
  have ih0 := laws_eqIntS.mono_l k
  unfold laws_eqIntS.f
  repeat' first
      | (with_reducible exact ih0 _ _ _)
      | (with_reducible exact LeO.refl _)
      | (with_reducible exact LeO.none _)
      | (with_reducible refine LeO.ite ?_ ?_)
      | (with_reducible refine LeO.bind ?_ (fun _ => ?_))
      | exact ih0 _ _ _
      | exact LeO.none _
      | refine LeO.ite ?_ ?_
      | refine LeO.bind ?_ (fun _ => ?_)
set_option maxHeartbeats 8000000 in
set_option maxRecDepth 100000 in
theorem laws_eqIntS.calls (k : Nat) (A0 : Option Addr) (c0 : Nat) (l0 : List Int) (A1 : Option Addr) (c1 : Nat) (l1 : List Int) (r : Bool) (w : World) (hr0 : Kd.C (Kd.int .i64) w A0 l0.length l0) (hc0 : l0.length ≤ c0) (hr1 : Kd.C (Kd.int .i64) w A1 l1.length l1) (hc1 : l1.length ≤ c1) (h : laws_eqIntS.f k l0 l1 = some r) :
    Calls Try.prog 54 #[.slice A0 l0.length c0, .slice A1 l1.length c1] w fun e w' => e = .returned (.bool r) ∧ Drawn0 w w' := by
  have HR0 := am_ hr0
  have HC0 := am_ hc0
  clear hr0 hc0
  have HR1 := am_ hr1
  have HC1 := am_ hc1
  clear hr1 hc1
  have H : (if (l0.length : Int) = (l1.length : Int) then (laws_eqIntS.l0 k l0 l1 0) else (some false)) = some r := h
  clear h
  by_cases c3 : (l0.length : Int) = (l1.length : Int)
  · rw [if_pos c3] at H
    have c3b0 : ((l0.length : Int) == (l1.length : Int)) = true := beq_iff_eq.mpr c3
    have c3b1 : ((l0.length : Int) != (l1.length : Int)) = false := bne_eq_false_iff_eq.mpr c3
    have c3b2 : (l0.length == l1.length) = true := by first | simpa using c3 | (simp at c3 ⊢; omega)
    clear c3
    have H' := am_ H
    clear H
    go_enter Try.func54, Try.ntmps54
    go_wp2
    repeat (go_quiet (fail); try go_wp2)
    go_loopg [5] k (fun kq v5 w' => ∃ (aa : Int), v5 = .int .i64 aa ∧ Aside0 (laws_eqIntS.l0 kq l0 l1 aa = some r) ∧ Aside0 (kq ≤ k) ∧ Drawn0 w w')
    case atStart => exact ⟨(0), (by first | rfl | (simp; done) | (simp [*]; done)), H', ⟨Nat.le_refl _⟩, by repeat (first | exact Drawn0.refl _ | apply Drawn0.step)⟩
    case round =>
      clear H'
      try clear c1
      try clear p2
      try clear c3
      try clear c3b0
      try clear c3b1
      try clear c3b2
      obtain ⟨aa, rfl, HA, HK1, ⟨m1, rfl⟩⟩ := hrel
      cases gk with
      | zero => exact absurd HA.out (by simp [laws_eqIntS.l0])
      | succ k1 =>
        have H := HA.out
        clear HA
        simp only [laws_eqIntS.l0] at H
        by_cases c4 : aa < (l0.length : Int)
        · rw [if_pos c4] at H
          have c4b0 : decide (aa < (l0.length : Int)) = true := decide_eq_true c4
          clear c4
          by_cases c5 : 0 ≤ aa
          · rw [if_pos c5] at H
            have c5b0 : decide (0 ≤ aa) = true := decide_eq_true c5
            clear c5
            by_cases c6 : aa < (l1.length : Int)
            · rw [if_pos c6] at H
              have c6b0 : decide (aa < (l1.length : Int)) = true := decide_eq_true c6
              clear c6
              by_cases c7 : (rd l0 aa) = (rd l1 aa)
              · rw [if_pos c7] at H
                have c7b0 : ((rd l0 aa) == (rd l1 aa)) = true := beq_iff_eq.mpr c7
                have c7b1 : ((rd l0 aa) != (rd l1 aa)) = false := bne_eq_false_iff_eq.mpr c7
                clear c7
                have H' := am_ H
                clear H
                have p232 : 0 ≤ (aa : Int) := of_decide_eq_true ah_
                have q232 : aa < (l0.length : Int) := of_decide_eq_true ah_
                obtain ⟨aL, e232, aF⟩ := Kd.at_int HR0.out aa p232 q232
                cases e232
                replace p232 := eq_true p232
                replace q232 := eq_true q232
                have p233 : 0 ≤ (aa : Int) := of_decide_eq_true ah_
                have q233 : aa < (l1.length : Int) := of_decide_eq_true ah_
                obtain ⟨aM, e233, aG⟩ := Kd.at_int HR1.out aa p233 q233
                cases e233
                replace p233 := eq_true p233
                replace q233 := eq_true q233
                go_wp2
                repeat (go_quiet (fail); try go_wp2)
                go_roundg k1
                case measure => have := HK1.out; omega
                case rel => exact ⟨(wrap64 (aa + 1)), (by first | rfl | (simp; done) | (simp [*]; done)), H', ⟨by have := HK1.out; omega⟩, by repeat (first | exact Drawn0.refl _ | apply Drawn0.step)⟩
              · rw [if_neg c7] at H
                have c7b0 : ((rd l0 aa) == (rd l1 aa)) = false := beq_eq_false_iff_ne.mpr c7
                have c7b1 : ((rd l0 aa) != (rd l1 aa)) = true := bne_iff_ne.mpr c7
                obtain rfl := Option.some.inj H
                simp only [Option.some.injEq, Prod.mk.injEq] at H
                obtain ⟨rfl⟩ := H
                have p232 : 0 ≤ (aa : Int) := of_decide_eq_true ah_
                have q232 : aa < (l0.length : Int) := of_decide_eq_true ah_
                obtain ⟨aL, e232, aF⟩ := Kd.at_int HR0.out aa p232 q232
                cases e232
                replace p232 := eq_true p232
                replace q232 := eq_true q232
                have p233 : 0 ≤ (aa : Int) := of_decide_eq_true ah_
                have q233 : aa < (l1.length : Int) := of_decide_eq_true ah_
                obtain ⟨aM, e233, aG⟩ := Kd.at_int HR1.out aa p233 q233
                cases e233
                replace p233 := eq_true p233
                replace q233 := eq_true q233
                go_wp2
                repeat (go_quiet (fail); try go_wp2)
                go_ret
                exact ⟨by first | rfl | (simp; done) | (simp [*]; done), by repeat (first | exact Drawn0.refl _ | apply Drawn0.step)⟩
            · rw [if_neg c6] at H
              exact absurd H (by simp)
          · rw [if_neg c5] at H
            exact absurd H (by simp)
        · rw [if_neg c4] at H
          have c4b0 : decide (aa < (l0.length : Int)) = false := decide_eq_false c4
          clear c4
          obtain rfl := Option.some.inj H
          simp only [Option.some.injEq, Prod.mk.injEq] at H
          obtain ⟨rfl⟩ := H
          go_wp2
          repeat (go_quiet (fail); try go_wp2)
          go_ret
          exact ⟨by first | rfl | (simp; done) | (simp [*]; done), by repeat (first | exact Drawn0.refl _ | apply Drawn0.step)⟩
  · rw [if_neg c3] at H
    have c3b0 : ((l0.length : Int) == (l1.length : Int)) = false := beq_eq_false_iff_ne.mpr c3
    have c3b1 : ((l0.length : Int) != (l1.length : Int)) = true := bne_iff_ne.mpr c3
    have c3b2 : (l0.length == l1.length) = false := by first | simpa using c3 | (simp at c3 ⊢; omega)
    obtain rfl := Option.some.inj H
    simp only [Option.some.injEq, Prod.mk.injEq] at H
    obtain ⟨rfl⟩ := H
    go_enter Try.func54, Try.ntmps54
    go_wp2
    repeat (go_quiet (fail); try go_wp2)
    go_ret
    exact ⟨by first | rfl | (simp; done) | (simp [*]; done), by repeat (first | exact Drawn0.refl _ | apply Drawn0.step)⟩
def laws_eqIntSS.l0 : Nat → List (List Int) → List (List Int) → Int → Option (Bool)
  | 0, _, _, _ => none
  | k + 1, x0, x1, x5 => if x5 < (x0.length : Int) then (if 0 ≤ x5 then (if x5 < (x1.length : Int) then ((laws_eqIntS.f k (rd_L1 x0 x5) (rd_L1 x1 x5)).bind fun aw => (if aw = true then (laws_eqIntSS.l0 k x0 x1 (wrap64 (x5 + 1))) else (some false))) else (none)) else (none)) else (some true)
def laws_eqIntSS.f (k : Nat) (l0 : List (List Int)) (l1 : List (List Int)) : Option (Bool) := if (l0.length : Int) = (l1.length : Int) then (laws_eqIntSS.l0 k l0 l1 0) else (some false)
theorem laws_eqIntSS.mono_l : ∀ k, (∀ y0 y1 y2, LeO (laws_eqIntSS.l0 k y0 y1 y2) (laws_eqIntSS.l0 (k + 1) y0 y1 y2))
  | 0 => fun _ _ _ r h => by simp [laws_eqIntSS.l0] at h
  | k + 1 => by
    have ih0 := laws_eqIntSS.mono_l k
    · intro y0 y1 y2
      unfold laws_eqIntSS.l0
      repeat' first
      | (with_reducible exact ih0 _ _ _)
      | (with_reducible exact laws_eqIntS.mono _ _ _)
      | (with_reducible exact LeO.refl _)
      | (with_reducible exact LeO.none _)
      | (with_reducible refine LeO.ite ?_ ?_)
      | (with_reducible refine LeO.bind ?_ (fun _ => ?_))
      | exact ih0 _ _ _
      | exact laws_eqIntS.mono _ _ _
      | exact LeO.none _
      | refine LeO.ite ?_ ?_
      | refine LeO.bind ?_ (fun _ => ?_)
theorem laws_eqIntSS.mono : ∀ a0 a1 k, LeO (laws_eqIntSS.f k a0 a1) (laws_eqIntSS.f (k + 1) a0 a1) := by
  intro a0 a1 k
  have ih0 := laws_eqIntSS.mono_l k
  unfold laws_eqIntSS.f
  repeat' first
      | (with_reducible exact ih0 _ _ _)
      | (with_reducible exact laws_eqIntS.mono _ _ _)
      | (with_reducible exact LeO.refl _)
      | (with_reducible exact LeO.none _)
      | (with_reducible refine LeO.ite ?_ ?_)
      | (with_reducible refine LeO.bind ?_ (fun _ => ?_))
      | exact ih0 _ _ _
      | exact laws_eqIntS.mono _ _ _
      | exact LeO.none _
      | refine LeO.ite ?_ ?_
      | refine LeO.bind ?_ (fun _ => ?_)
set_option maxHeartbeats 8000000 in
set_option maxRecDepth 100000 in
theorem laws_eqIntSS.calls (k : Nat) (A0 : Option Addr) (c0 : Nat) (l0 : List (List Int)) (A1 : Option Addr) (c1 : Nat) (l1 : List (List Int)) (r : Bool) (w : World) (hr0 : Kd.C (Kd.slice 3 (Kd.int .i64)) w A0 l0.length l0) (hc0 : l0.length ≤ c0) (hr1 : Kd.C (Kd.slice 3 (Kd.int .i64)) w A1 l1.length l1) (hc1 : l1.length ≤ c1) (h : laws_eqIntSS.f k l0 l1 = some r) :
    Calls Try.prog 34 #[.slice A0 l0.length c0, .slice A1 l1.length c1] w fun e w' => e = .returned (.bool r) ∧ Drawn0 w w' := by
  have HR0 := am_ hr0
  have HC0 := am_ hc0
  clear hr0 hc0
  have HR1 := am_ hr1
  have HC1 := am_ hc1
  clear hr1 hc1
  have H : (if (l0.length : Int) = (l1.length : Int) then (laws_eqIntSS.l0 k l0 l1 0) else (some false)) = some r := h
  clear h
  by_cases c3 : (l0.length : Int) = (l1.length : Int)
  · rw [if_pos c3] at H
    have c3b0 : ((l0.length : Int) == (l1.length : Int)) = true := beq_iff_eq.mpr c3
    have c3b1 : ((l0.length : Int) != (l1.length : Int)) = false := bne_eq_false_iff_eq.mpr c3
    have c3b2 : (l0.length == l1.length) = true := by first | simpa using c3 | (simp at c3 ⊢; omega)
    clear c3
    have H' := am_ H
    clear H
    go_enter Try.func34, Try.ntmps34
    go_wp2
    repeat (go_quiet (fail); try go_wp2)
    go_loopg [5] k (fun kq v5 w' => ∃ (aa : Int), v5 = .int .i64 aa ∧ Aside0 (laws_eqIntSS.l0 kq l0 l1 aa = some r) ∧ Aside0 (kq ≤ k) ∧ Drawn0 w w')
    case atStart => exact ⟨(0), (by first | rfl | (simp; done) | (simp [*]; done)), H', ⟨Nat.le_refl _⟩, by repeat (first | exact Drawn0.refl _ | apply Drawn0.step)⟩
    case round =>
      clear H'
      try clear c1
      try clear p2
      try clear c3
      try clear c3b0
      try clear c3b1
      try clear c3b2
      obtain ⟨aa, rfl, HA, HK1, ⟨m1, rfl⟩⟩ := hrel
      cases gk with
      | zero => exact absurd HA.out (by simp [laws_eqIntSS.l0])
      | succ k1 =>
        have H := HA.out
        clear HA
        simp only [laws_eqIntSS.l0] at H
        by_cases c4 : aa < (l0.length : Int)
        · rw [if_pos c4] at H
          have c4b0 : decide (aa < (l0.length : Int)) = true := decide_eq_true c4
          clear c4
          by_cases c5 : 0 ≤ aa
          · rw [if_pos c5] at H
            have c5b0 : decide (0 ≤ aa) = true := decide_eq_true c5
            clear c5
            by_cases c6 : aa < (l1.length : Int)
            · rw [if_pos c6] at H
              have c6b0 : decide (aa < (l1.length : Int)) = true := decide_eq_true c6
              clear c6
              replace H := Option.bind_eq_some_iff.mp H
              obtain ⟨aw, A70, H⟩ := H
              have A7 := am_ A70
              clear A70
              by_cases c8 : aw = true
              · subst c8
                have H1 : (laws_eqIntSS.l0 k1 l0 l1 (wrap64 (aa + 1))) = some r := by rw [if_pos rfl] at H; exact H
                clear H
                have H := H1
                clear H1
                have H' := am_ H
                clear H
                have p234 : 0 ≤ (aa : Int) := of_decide_eq_true ah_
                have q234 : aa < (l0.length : Int) := of_decide_eq_true ah_
                obtain ⟨aN, A234_0, c234_0, e234, aH, hl234_0, hi234_0⟩ := at_L1 HR0.out aa p234 q234
                cases e234
                have ah := am_ hi234_0
                have ai := am_ hl234_0
                clear hi234_0 hl234_0
                replace p234 := eq_true p234
                replace q234 := eq_true q234
                have p235 : 0 ≤ (aa : Int) := of_decide_eq_true ah_
                have q235 : aa < (l1.length : Int) := of_decide_eq_true ah_
                obtain ⟨aO, A235_0, c235_0, e235, aI, hl235_0, hi235_0⟩ := at_L1 HR1.out aa p235 q235
                cases e235
                have aj := am_ hi235_0
                have ak := am_ hl235_0
                clear hi235_0 hl235_0
                replace p235 := eq_true p235
                replace q235 := eq_true q235
                go_wp2_with (first | (go_at_call 54; (with_reducible refine (laws_eqIntS.calls k1 _ _ (rd_L1 l0 aa) _ _ (rd_L1 l1 aa) true _ ?side1 ?side2 ?side3 ?side4 A7.out).mono ?_); (case side1 => exact rc_ ah.out); (case side2 => exact ai.out); (case side3 => exact rc_ aj.out); (case side4 => exact ak.out); rintro e w' ⟨rfl, ⟨nd, rfl⟩⟩; (try first | exact ⟨rfl, _, World.drewN_drewN _ _ _⟩ | exact ⟨rfl, _, Eq.trans (World.drewN_drewN _ _ _) (congrArg (World.drewN _) (Nat.add_assoc _ _ _))⟩)))
                repeat (go_quiet (first | (go_at_call 54; (with_reducible refine (laws_eqIntS.calls k1 _ _ (rd_L1 l0 aa) _ _ (rd_L1 l1 aa) true _ ?side1 ?side2 ?side3 ?side4 A7.out).mono ?_); (case side1 => exact rc_ ah.out); (case side2 => exact ai.out); (case side3 => exact rc_ aj.out); (case side4 => exact ak.out); rintro e w' ⟨rfl, ⟨nd, rfl⟩⟩; (try first | exact ⟨rfl, _, World.drewN_drewN _ _ _⟩ | exact ⟨rfl, _, Eq.trans (World.drewN_drewN _ _ _) (congrArg (World.drewN _) (Nat.add_assoc _ _ _))⟩))); try go_wp2_with (first | (go_at_call 54; (with_reducible refine (laws_eqIntS.calls k1 _ _ (rd_L1 l0 aa) _ _ (rd_L1 l1 aa) true _ ?side1 ?side2 ?side3 ?side4 A7.out).mono ?_); (case side1 => exact rc_ ah.out); (case side2 => exact ai.out); (case side3 => exact rc_ aj.out); (case side4 => exact ak.out); rintro e w' ⟨rfl, ⟨nd, rfl⟩⟩; (try first | exact ⟨rfl, _, World.drewN_drewN _ _ _⟩ | exact ⟨rfl, _, Eq.trans (World.drewN_drewN _ _ _) (congrArg (World.drewN _) (Nat.add_assoc _ _ _))⟩))))
                go_roundg k1
                case measure => have := HK1.out; omega
                case rel => exact ⟨(wrap64 (aa + 1)), (by first | rfl | (simp; done) | (simp [*]; done)), H', ⟨by have := HK1.out; omega⟩, by repeat (first | exact Drawn0.refl _ | apply Drawn0.step)⟩
              · replace c8 := Bool.eq_false_iff.mpr c8
                subst c8
                have H1 : (some false) = some r := by rw [if_neg (show ¬ (false = true) by decide)] at H; exact H
                clear H
                have H := H1
                clear H1
                obtain rfl := Option.some.inj H
                simp only [Option.some.injEq, Prod.mk.injEq] at H
                obtain ⟨rfl⟩ := H
                have p234 : 0 ≤ (aa : Int) := of_decide_eq_true ah_
                have q234 : aa < (l0.length : Int) := of_decide_eq_true ah_
                obtain ⟨aN, A234_0, c234_0, e234, aH, hl234_0, hi234_0⟩ := at_L1 HR0.out aa p234 q234
                cases e234
                have ah := am_ hi234_0
                have ai := am_ hl234_0
                clear hi234_0 hl234_0
                replace p234 := eq_true p234
                replace q234 := eq_true q234
                have p235 : 0 ≤ (aa : Int) := of_decide_eq_true ah_
                have q235 : aa < (l1.length : Int) := of_decide_eq_true ah_
                obtain ⟨aO, A235_0, c235_0, e235, aI, hl235_0, hi235_0⟩ := at_L1 HR1.out aa p235 q235
                cases e235
                have aj := am_ hi235_0
                have ak := am_ hl235_0
                clear hi235_0 hl235_0
                replace p235 := eq_true p235
                replace q235 := eq_true q235
                go_wp2_with (first | (go_at_call 54; (with_reducible refine (laws_eqIntS.calls k1 _ _ (rd_L1 l0 aa) _ _ (rd_L1 l1 aa) false _ ?side1 ?side2 ?side3 ?side4 A7.out).mono ?_); (case side1 => exact rc_ ah.out); (case side2 => exact ai.out); (case side3 => exact rc_ aj.out); (case side4 => exact ak.out); rintro e w' ⟨rfl, ⟨nd, rfl⟩⟩; (try first | exact ⟨rfl, _, World.drewN_drewN _ _ _⟩ | exact ⟨rfl, _, Eq.trans (World.drewN_drewN _ _ _) (congrArg (World.drewN _) (Nat.add_assoc _ _ _))⟩)))
                repeat (go_quiet (first | (go_at_call 54; (with_reducible refine (laws_eqIntS.calls k1 _ _ (rd_L1 l0 aa) _ _ (rd_L1 l1 aa) false _ ?side1 ?side2 ?side3 ?side4 A7.out).mono ?_); (case side1 => exact rc_ ah.out); (case side2 => exact ai.out); (case side3 => exact rc_ aj.out); (case side4 => exact ak.out); rintro e w' ⟨rfl, ⟨nd, rfl⟩⟩; (try first | exact ⟨rfl, _, World.drewN_drewN _ _ _⟩ | exact ⟨rfl, _, Eq.trans (World.drewN_drewN _ _ _) (congrArg (World.drewN _) (Nat.add_assoc _ _ _))⟩))); try go_wp2_with (first | (go_at_call 54; (with_reducible refine (laws_eqIntS.calls k1 _ _ (rd_L1 l0 aa) _ _ (rd_L1 l1 aa) false _ ?side1 ?side2 ?side3 ?side4 A7.out).mono ?_); (case side1 => exact rc_ ah.out); (case side2 => exact ai.out); (case side3 => exact rc_ aj.out); (case side4 => exact ak.out); rintro e w' ⟨rfl, ⟨nd, rfl⟩⟩; (try first | exact ⟨rfl, _, World.drewN_drewN _ _ _⟩ | exact ⟨rfl, _, Eq.trans (World.drewN_drewN _ _ _) (congrArg (World.drewN _) (Nat.add_assoc _ _ _))⟩))))
                go_ret
                exact ⟨by first | rfl | (simp; done) | (simp [*]; done), by repeat (first | exact Drawn0.refl _ | apply Drawn0.step)⟩
            · rw [if_neg c6] at H
              exact absurd H (by simp)
          · rw [if_neg c5] at H
            exact absurd H (by simp)
        · rw [if_neg c4] at H
          have c4b0 : decide (aa < (l0.length : Int)) = false := decide_eq_false c4
          clear c4
          obtain rfl := Option.some.inj H
          simp only [Option.some.injEq, Prod.mk.injEq] at H
          obtain ⟨rfl⟩ := H
          go_wp2
          repeat (go_quiet (fail); try go_wp2)
          go_ret
          exact ⟨by first | rfl | (simp; done) | (simp [*]; done), by repeat (first | exact Drawn0.refl _ | apply Drawn0.step)⟩
  · rw [if_neg c3] at H
    have c3b0 : ((l0.length : Int) == (l1.length : Int)) = false := beq_eq_false_iff_ne.mpr c3
    have c3b1 : ((l0.length : Int) != (l1.length : Int)) = true := bne_iff_ne.mpr c3
    have c3b2 : (l0.length == l1.length) = false := by first | simpa using c3 | (simp at c3 ⊢; omega)
    obtain rfl := Option.some.inj H
    simp only [Option.some.injEq, Prod.mk.injEq] at H
    obtain ⟨rfl⟩ := H
    go_enter Try.func34, Try.ntmps34
    go_wp2
    repeat (go_quiet (fail); try go_wp2)
    go_ret
    exact ⟨by first | rfl | (simp; done) | (simp [*]; done), by repeat (first | exact Drawn0.refl _ | apply Drawn0.step)⟩
def laws_eqDfa.f (k : Nat) (l0_0 : List Bool) (l0_1 : List (List Int)) (l1_0 : List Bool) (l1_1 : List (List Int)) : Option (Bool) := (laws_eqBoolS.f k l0_0 l1_0).bind fun ap => (if ap = true then ((laws_eqIntSS.f k l0_1 l1_1).bind fun ao => (if ao = true then (some true) else (some false))) else (some false))
theorem laws_eqDfa.mono : ∀ a0 a1 a2 a3 k, LeO (laws_eqDfa.f k a0 a1 a2 a3) (laws_eqDfa.f (k + 1) a0 a1 a2 a3) := by
 intro a0 a1 a2 a3 k
 unfold laws_eqDfa.f
 repeat' first
   | (with_reducible exact laws_eqBoolS.mono _ _ _)
   | (with_reducible exact laws_eqIntSS.mono _ _ _)
   | (with_reducible exact LeO.refl _)
   | (with_reducible exact LeO.none _)
   | (with_reducible refine LeO.ite ?_ ?_)
   | (with_reducible refine LeO.bind ?_ (fun _ => ?_))
   | exact laws_eqBoolS.mono _ _ _
   | exact laws_eqIntSS.mono _ _ _
   | exact LeO.none _
   | refine LeO.ite ?_ ?_
   | refine LeO.bind ?_ (fun _ => ?_)
set_option maxHeartbeats 8000000 in
set_option maxRecDepth 100000 in
theorem laws_eqDfa.calls (k : Nat) (A0_0 : Option Addr) (c0_0 : Nat) (l0_0 : List Bool) (A0_1 : Option Addr) (c0_1 : Nat) (l0_1 : List (List Int)) (A1_0 : Option Addr) (c1_0 : Nat) (l1_0 : List Bool) (A1_1 : Option Addr) (c1_1 : Nat) (l1_1 : List (List Int)) (r : Bool) (w : World) (hr0_0 : Kd.C Kd.bool w A0_0 l0_0.length l0_0) (hc0_0 : l0_0.length ≤ c0_0) (hr0_1 : Kd.C (Kd.slice 3 (Kd.int .i64)) w A0_1 l0_1.length l0_1) (hc0_1 : l0_1.length ≤ c0_1) (hr1_0 : Kd.C Kd.bool w A1_0 l1_0.length l1_0) (hc1_0 : l1_0.length ≤ c1_0) (hr1_1 : Kd.C (Kd.slice 3 (Kd.int .i64)) w A1_1 l1_1.length l1_1) (hc1_1 : l1_1.length ≤ c1_1) (h : laws_eqDfa.f k l0_0 l0_1 l1_0 l1_1 = some r) :
  Calls Try.prog 10 #[.agg #[.slice A0_0 l0_0.length c0_0, .slice A0_1 l0_1.length c0_1], .agg #[.slice A1_0 l1_0.length c1_0, .slice A1_1 l1_1.length c1_1]] w fun e w' => e = .returned (.bool r) ∧ Below w.heap.size w w' := by
 have hu28 := Try.underlying28
 have aq := am_ hr0_0
 have ar := am_ hc0_0
 clear hr0_0 hc0_0
 have ax := am_ hr0_1
 have ay := am_ hc0_1
 clear hr0_1 hc0_1
 have au := am_ hr1_0
 have av := am_ hc1_0
 clear hr1_0 hc1_0
 have az := am_ hr1_1
 have aA := am_ hc1_1
 clear hr1_1 hc1_1
 have HB := am_ (Below.refl w.heap.size w)
 have H : ((laws_eqBoolS.f k l0_0 l1_0).bind fun ap => (if ap = true then ((laws_eqIntSS.f k l0_1 l1_1).bind fun ao => (if ao = true then (some true) else (some false))) else (some false))) = some r := h
 clear h
 replace H := Option.bind_eq_some_iff.mp H
 obtain ⟨ap, A30, H⟩ := H
 have A3 := am_ A30
 clear A30
 by_cases c4 : ap = true
 ·subst c4
  have H1 : ((laws_eqIntSS.f k l0_1 l1_1).bind fun ao => (if ao = true then (some true) else (some false))) = some r := by rw [if_pos rfl] at H; exact H
  clear H
  have H := H1
  clear H1
  replace H := Option.bind_eq_some_iff.mp H
  obtain ⟨ao, A50, H⟩ := H
  replace H : (if ao = true then (some true) else (some false)) = some r := H
  have A5 := am_ A50
  clear A50
  by_cases c6 : ao = true
  ·subst c6
   have H1 : (some true) = some r := by rw [if_pos rfl] at H; exact H
   clear H
   have H := H1
   clear H1
   obtain rfl := Option.some.inj H
   simp only [Option.some.injEq, Prod.mk.injEq] at H
   obtain ⟨rfl⟩ := H
   go_enter Try.func10, Try.ntmps10
   go_wp2_with (first | ((with_reducible refine gate_dst (N := 2) rfl ?_); refine box_event ?hg (N := 2) ?hd (cs := #[.slice A0_0 l0_0.length c0_0, .slice A0_1 l0_1.length c0_1]) (t := 28) ?hr ?_; (case hd => rfl); (case hg => rfl); (case hr => first | (go_simp; done) | (go_simp; rfl)); intro ae hg w7 hbox hb; replace ab := am_ (hbox); replace aB := am_ ((by rw [hg]; exact (below_size (b0_ HB.out)) : w.heap.size ≤ ae)); replace ad := am_ ((by rw [hg]; exact (below_size (b0_ HB.out)) : w.heap.size ≤ ae)); replace HB := am_ (below_step (b0_ HB.out) hb); clear hb hbox hg) | ((with_reducible refine gate_dst (N := 3) rfl ?_); refine box_event ?hg (N := 3) ?hd (cs := #[.slice A1_0 l1_0.length c1_0, .slice A1_1 l1_1.length c1_1]) (t := 28) ?hr ?_; (case hd => rfl); (case hg => rfl); (case hr => first | (go_simp; done) | (go_simp; rfl)); intro af hg w8 hbox hb; have n0_ := am_ (blk_below (rb_ ab.out) hb); have n1_ := am_ (below_step (b1_ HB.out ad.out) hb); have n2_ := am_ (hbox); have n3_ := am_ ((by rw [hg]; exact (below_size (b1_ HB.out ad.out)) : w.heap.size ≤ af)); have n4_ := am_ ((by rw [hg]; exact (below_size (b1_ HB.out ad.out)) : w.heap.size ≤ af)); have n5_ := am_ ((by rw [hg]; exact Nat.ne_of_lt (blk_lt (rb_ ab.out)) : ae ≠ af)); have n6_ := am_ ((by rw [hg]; exact Nat.ne_of_gt (blk_lt (rb_ ab.out)) : af ≠ ae)); clear ab; clear HB; have ab := n0_; have HB := n1_; have ag := n2_; have aC := n3_; have an := n4_; have al := n5_; have am := n6_; clear n0_ n1_ n2_ n3_ n4_ n5_ n6_; clear hb hbox hg; have br := al.out; have bs := am.out; have aP := ck_ (v := (.slice A0_0 l0_0.length c0_0)) ab 0 rfl; have aQ := ck_ (v := (.slice A0_1 l0_1.length c0_1)) ab 1 rfl; have aR := blk_frozen ab.out 0; have aS := blk_frozen ab.out 1; have aT := ck_ (v := (.slice A1_0 l1_0.length c1_0)) ag 0 rfl; have aU := ck_ (v := (.slice A1_1 l1_1.length c1_1)) ag 1 rfl; have aV := blk_frozen ag.out 0; have aW := blk_frozen ag.out 1) | ((with_reducible refine gate_callee (f := 13) rfl ?_); refine gL_ (some 9) Try.func13 #[.slice A0_0 l0_0.length c0_0, .slice A1_0 l1_0.length c1_0] ?_; (with_reducible refine (laws_eqBoolS.calls k _ _ l0_0 _ _ l1_0 true _ ?side1 ?side2 ?side3 ?side4 A3.out).mono ?_); (case side1 => exact rc_ (Kd.C_below aq.out HB.out)); (case side2 => exact ar.out); (case side3 => exact rc_ (Kd.C_below au.out HB.out)); (case side4 => exact av.out); rintro e w' ⟨rfl, ⟨nd, rfl⟩⟩; refine ⟨_, rfl, ?_⟩) | ((with_reducible refine gate_callee (f := 34) rfl ?_); refine gL_ (some 15) Try.func34 #[.slice A0_1 l0_1.length c0_1, .slice A1_1 l1_1.length c1_1] ?_; (with_reducible refine (laws_eqIntSS.calls k _ _ l0_1 _ _ l1_1 true _ ?side1 ?side2 ?side3 ?side4 A5.out).mono ?_); (case side1 => exact rc_ (Kd.C_below ax.out (b2_ HB.out ad.out an.out))); (case side2 => exact ay.out); (case side3 => exact rc_ (Kd.C_below az.out (b2_ HB.out ad.out an.out))); (case side4 => exact aA.out); rintro e w' ⟨rfl, ⟨nd, rfl⟩⟩; refine ⟨_, rfl, ?_⟩))
   go_ret
   exact ⟨by first | rfl | (simp [errW_none, errW_some] <;> rfl) | (simp [*, errW_none, errW_some] <;> rfl), by repeat (first | (with_reducible first | exact HB.out | apply below_alloc | apply pw_below_drewN | apply below_drew1 | refine below_set ?_ ad.out | refine below_set ?_ an.out) | exact HB.out)⟩
  ·replace c6 := Bool.eq_false_iff.mpr c6
   subst c6
   have H1 : (some false) = some r := by rw [if_neg (show ¬ (false = true) by decide)] at H; exact H
   clear H
   have H := H1
   clear H1
   obtain rfl := Option.some.inj H
   simp only [Option.some.injEq, Prod.mk.injEq] at H
   obtain ⟨rfl⟩ := H
   go_enter Try.func10, Try.ntmps10
   go_wp2_with (first | ((with_reducible refine gate_dst (N := 2) rfl ?_); refine box_event ?hg (N := 2) ?hd (cs := #[.slice A0_0 l0_0.length c0_0, .slice A0_1 l0_1.length c0_1]) (t := 28) ?hr ?_; (case hd => rfl); (case hg => rfl); (case hr => first | (go_simp; done) | (go_simp; rfl)); intro ae hg w12 hbox hb; replace ab := am_ (hbox); replace aB := am_ ((by rw [hg]; exact (below_size (b0_ HB.out)) : w.heap.size ≤ ae)); replace ad := am_ ((by rw [hg]; exact (below_size (b0_ HB.out)) : w.heap.size ≤ ae)); replace HB := am_ (below_step (b0_ HB.out) hb); clear hb hbox hg) | ((with_reducible refine gate_dst (N := 3) rfl ?_); refine box_event ?hg (N := 3) ?hd (cs := #[.slice A1_0 l1_0.length c1_0, .slice A1_1 l1_1.length c1_1]) (t := 28) ?hr ?_; (case hd => rfl); (case hg => rfl); (case hr => first | (go_simp; done) | (go_simp; rfl)); intro af hg w13 hbox hb; have n0_ := am_ (blk_below (rb_ ab.out) hb); have n1_ := am_ (below_step (b1_ HB.out ad.out) hb); have n2_ := am_ (hbox); have n3_ := am_ ((by rw [hg]; exact (below_size (b1_ HB.out ad.out)) : w.heap.size ≤ af)); have n4_ := am_ ((by rw [hg]; exact (below_size (b1_ HB.out ad.out)) : w.heap.size ≤ af)); have n5_ := am_ ((by rw [hg]; exact Nat.ne_of_lt (blk_lt (rb_ ab.out)) : ae ≠ af)); have n6_ := am_ ((by rw [hg]; exact Nat.ne_of_gt (blk_lt (rb_ ab.out)) : af ≠ ae)); clear ab; clear HB; have ab := n0_; have HB := n1_; have ag := n2_; have aC := n3_; have an := n4_; have al := n5_; have am := n6_; clear n0_ n1_ n2_ n3_ n4_ n5_ n6_; clear hb hbox hg; have bn := al.out; have bo := am.out; have aX := ck_ (v := (.slice A0_0 l0_0.length c0_0)) ab 0 rfl; have aY := ck_ (v := (.slice A0_1 l0_1.length c0_1)) ab 1 rfl; have aZ := blk_frozen ab.out 0; have ba := blk_frozen ab.out 1; have bb := ck_ (v := (.slice A1_0 l1_0.length c1_0)) ag 0 rfl; have bc := ck_ (v := (.slice A1_1 l1_1.length c1_1)) ag 1 rfl; have bd := blk_frozen ag.out 0; have be := blk_frozen ag.out 1) | ((with_reducible refine gate_callee (f := 13) rfl ?_); refine gL_ (some 9) Try.func13 #[.slice A0_0 l0_0.length c0_0, .slice A1_0 l1_0.length c1_0] ?_; (with_reducible refine (laws_eqBoolS.calls k _ _ l0_0 _ _ l1_0 true _ ?side1 ?side2 ?side3 ?side4 A3.out).mono ?_); (case side1 => exact rc_ (Kd.C_below aq.out HB.out)); (case side2 => exact ar.out); (case side3 => exact rc_ (Kd.C_below au.out HB.out)); (case side4 => exact av.out); rintro e w' ⟨rfl, ⟨nd, rfl⟩⟩; refine ⟨_, rfl, ?_⟩) | ((with_reducible refine gate_callee (f := 34) rfl ?_); refine gL_ (some 15) Try.func34 #[.slice A0_1 l0_1.length c0_1, .slice A1_1 l1_1.length c1_1] ?_; (with_reducible refine (laws_eqIntSS.calls k _ _ l0_1 _ _ l1_1 false _ ?side1 ?side2 ?side3 ?side4 A5.out).mono ?_); (case side1 => exact rc_ (Kd.C_below ax.out (b2_ HB.out ad.out an.out))); (case side2 => exact ay.out); (case side3 => exact rc_ (Kd.C_below az.out (b2_ HB.out ad.out an.out))); (case side4 => exact aA.out); rintro e w' ⟨rfl, ⟨nd, rfl⟩⟩; refine ⟨_, rfl, ?_⟩))
   go_ret
   exact ⟨by first | rfl | (simp [errW_none, errW_some] <;> rfl) | (simp [*, errW_none, errW_some] <;> rfl), by repeat (first | (with_reducible first | exact HB.out | apply below_alloc | apply pw_below_drewN | apply below_drew1 | refine below_set ?_ ad.out | refine below_set ?_ an.out) | exact HB.out)⟩
 ·replace c4 := Bool.eq_false_iff.mpr c4
  subst c4
  have H1 : (some false) = some r := by rw [if_neg (show ¬ (false = true) by decide)] at H; exact H
  clear H
  have H := H1
  clear H1
  obtain rfl := Option.some.inj H
  simp only [Option.some.injEq, Prod.mk.injEq] at H
  obtain ⟨rfl⟩ := H
  go_enter Try.func10, Try.ntmps10
  go_wp2_with (first | ((with_reducible refine gate_dst (N := 2) rfl ?_); refine box_event ?hg (N := 2) ?hd (cs := #[.slice A0_0 l0_0.length c0_0, .slice A0_1 l0_1.length c0_1]) (t := 28) ?hr ?_; (case hd => rfl); (case hg => rfl); (case hr => first | (go_simp; done) | (go_simp; rfl)); intro ae hg w17 hbox hb; replace ab := am_ (hbox); replace aB := am_ ((by rw [hg]; exact (below_size (b0_ HB.out)) : w.heap.size ≤ ae)); replace ad := am_ ((by rw [hg]; exact (below_size (b0_ HB.out)) : w.heap.size ≤ ae)); replace HB := am_ (below_step (b0_ HB.out) hb); clear hb hbox hg) | ((with_reducible refine gate_dst (N := 3) rfl ?_); refine box_event ?hg (N := 3) ?hd (cs := #[.slice A1_0 l1_0.length c1_0, .slice A1_1 l1_1.length c1_1]) (t := 28) ?hr ?_; (case hd => rfl); (case hg => rfl); (case hr => first | (go_simp; done) | (go_simp; rfl)); intro af hg w18 hbox hb; have n0_ := am_ (blk_below (rb_ ab.out) hb); have n1_ := am_ (below_step (b1_ HB.out ad.out) hb); have n2_ := am_ (hbox); have n3_ := am_ ((by rw [hg]; exact (below_size (b1_ HB.out ad.out)) : w.heap.size ≤ af)); have n4_ := am_ ((by rw [hg]; exact (below_size (b1_ HB.out ad.out)) : w.heap.size ≤ af)); have n5_ := am_ ((by rw [hg]; exact Nat.ne_of_lt (blk_lt (rb_ ab.out)) : ae ≠ af)); have n6_ := am_ ((by rw [hg]; exact Nat.ne_of_gt (blk_lt (rb_ ab.out)) : af ≠ ae)); clear ab; clear HB; have ab := n0_; have HB := n1_; have ag := n2_; have aC := n3_; have an := n4_; have al := n5_; have am := n6_; clear n0_ n1_ n2_ n3_ n4_ n5_ n6_; clear hb hbox hg; have bp := al.out; have bq := am.out; have bf := ck_ (v := (.slice A0_0 l0_0.length c0_0)) ab 0 rfl; have bg := ck_ (v := (.slice A0_1 l0_1.length c0_1)) ab 1 rfl; have bh := blk_frozen ab.out 0; have bi := blk_frozen ab.out 1; have bj := ck_ (v := (.slice A1_0 l1_0.length c1_0)) ag 0 rfl; have bk := ck_ (v := (.slice A1_1 l1_1.length c1_1)) ag 1 rfl; have bl := blk_frozen ag.out 0; have bm := blk_frozen ag.out 1) | ((with_reducible refine gate_callee (f := 13) rfl ?_); refine gL_ (some 9) Try.func13 #[.slice A0_0 l0_0.length c0_0, .slice A1_0 l1_0.length c1_0] ?_; (with_reducible refine (laws_eqBoolS.calls k _ _ l0_0 _ _ l1_0 false _ ?side1 ?side2 ?side3 ?side4 A3.out).mono ?_); (case side1 => exact rc_ (Kd.C_below aq.out HB.out)); (case side2 => exact ar.out); (case side3 => exact rc_ (Kd.C_below au.out HB.out)); (case side4 => exact av.out); rintro e w' ⟨rfl, ⟨nd, rfl⟩⟩; refine ⟨_, rfl, ?_⟩))
  go_ret
  exact ⟨by first | rfl | (simp [errW_none, errW_some] <;> rfl) | (simp [*, errW_none, errW_some] <;> rfl), by repeat (first | (with_reducible first | exact HB.out | apply below_alloc | apply pw_below_drewN | apply below_drew1 | refine below_set ?_ ad.out | refine below_set ?_ an.out) | exact HB.out)⟩
end Go.Proofs.Ytpgdhpnmagmooaa.P
end
section
namespace Go.Proofs.Ytpgdhpnmagmooaa.Pl
open Go.RowKit Go.Proofs.Ytpgdhpnmagmooaa.P Go.Proofs.YtpgdhpnmagmooaaW.PrintWords Go.Proofs.YtpgdhpnmagmooaaW.PrintLast Go.Proofs.YtpgdhpnmagmooaaW.PrintMore Wk
set_option linter.unusedVariables false
set_option linter.unusedSimpArgs false
theorem rows_get (xs : List (List Int)) (i : Nat) (h : i < xs.length) : rd_L1 xs i = xs[i] := by
  simp [rd_L1, List.getD_eq_getElem?_getD, h]
theorem szRows_l0 (xs : List (List Int)) (hx : ∀ r ∈ xs, r.length ≤ 9223372036854775807) (hl : xs.length ≤ 1048576) : ∀ (d i : Nat) (left : Int), i + d = xs.length → 0 ≤ left → left ≤ 1048576 →
    ∃ r : Int, Ev (fun k => laws_szIntSS.l0 k xs left i) r ∧ -1 ≤ r ∧ r ≤ left ∧ (0 ≤ r → ∀ x ∈ xs.drop i, (x.length : Int) ≤ 1048576) := by
  intro d
  induction d with
  | zero =>
    intro i left h h0 h1
    refine ⟨left, next ?_, by omega, by omega, fun _ => by rw [List.drop_eq_nil_of_le (by omega)]; intro x hx; cases hx⟩
    simp only [laws_szIntSS.l0, if_neg (show ¬ (i : Int) < (xs.length : Int) by omega)]
    exact Ev.now _
  | succ d ih =>
    intro i left h h0 h1
    have hi : i < xs.length := by omega
    have hb := hx xs[i] (List.getElem_mem _)
    have hw : wrap64 (left - (xs[i].length : Int)) = left - (xs[i].length : Int) := w64 (by omega) (by omega)
    by_cases hneg : left - (xs[i].length : Int) < 0
    · refine ⟨-1, next ?_, by omega, by omega, fun h => by omega⟩
      simp only [laws_szIntSS.l0, if_pos (show (i : Int) < (xs.length : Int) by omega), if_pos (show (0 : Int) ≤ i by omega), laws_szIntS.f, rows_get xs i hi, hw, if_pos hneg, Option.bind_some, if_pos (show (-1 : Int) < 0 by omega)]
      exact Ev.now _
    · obtain ⟨r, hr, h2, h3, h4⟩ := ih (i + 1) (left - (xs[i].length : Int)) (by omega) (by omega) (by omega)
      refine ⟨r, next ?_, h2, by omega, fun hr0 x hx => ?_⟩
      · simp only [laws_szIntSS.l0, if_pos (show (i : Int) < (xs.length : Int) by omega), if_pos (show (0 : Int) ≤ i by omega), laws_szIntS.f, rows_get xs i hi, hw, if_neg hneg, Option.bind_some, up1 (show i < 9223372036854775807 by omega)]
        exact hr
      · rw [List.drop_eq_getElem_cons hi] at hx
        rcases List.mem_cons.mp hx with rfl | hx
        · omega
        · exact h4 hr0 x hx
theorem szDfa (a : List Bool) (n : List (List Int)) (ha : a.length ≤ 9223372036854775807) (hn : n.length ≤ 9223372036854775807) (hx : ∀ r ∈ n, r.length ≤ 9223372036854775807) (left : Int) (h0 : 0 ≤ left) (h1 : left ≤ 1048576) :
    ∃ r : Int, Ev (fun k => laws_szDfa.f k a n left) r ∧ -1 ≤ r ∧ r ≤ left ∧ (0 ≤ r → a.length ≤ 1048576 ∧ n.length ≤ 1048576 ∧ ∀ x ∈ n, x.length ≤ 1048576) := by
  simp only [laws_szDfa.f, laws_szBoolS.f, laws_szIntSS.f]
  have hw : wrap64 (left - (a.length : Int)) = left - (a.length : Int) := w64 (by omega) (by omega)
  rw [hw]
  by_cases hneg : left - (a.length : Int) < 0
  · refine ⟨-1, ?_, by omega, by omega, fun h => by omega⟩
    simp only [if_pos hneg, Option.bind_some, if_pos (show (-1 : Int) < 0 by omega)]
    exact Ev.now _
  · have hw2 : wrap64 (left - (a.length : Int) - (n.length : Int)) = left - (a.length : Int) - (n.length : Int) := w64 (by omega) (by omega)
    simp only [if_neg hneg, Option.bind_some, hw2]
    by_cases hneg2 : left - (a.length : Int) - (n.length : Int) < 0
    · refine ⟨-1, ?_, by omega, by omega, fun h => by omega⟩
      simp only [if_pos hneg2, Option.bind_some, if_pos (show (-1 : Int) < 0 by omega)]
      exact Ev.now _
    · obtain ⟨r, hr, h2, h3, h4⟩ := szRows_l0 n hx (by omega) n.length 0 (left - (a.length : Int) - (n.length : Int)) (by omega) (by omega) (by omega)
      refine ⟨r, ?_, h2, by omega, fun hr0 => ⟨by omega, by omega, fun x hx => ?_⟩⟩
      · simp only [if_neg hneg2]
        refine Ev.bind hr ?_
        by_cases hr0 : r < 0
        · simp only [if_pos hr0]
          exact ev_some (by omega)
        · simp only [if_neg hr0]
          exact Ev.now _
      · have := h4 hr0 x hx
        omega
theorem toBools_l0 (xs : List Bool) (hl : xs.length ≤ 1048576) : ∀ (d i : Nat) (ys : List Bool), i + d = xs.length → ys.length = xs.length → (∀ j, j < i → ys[j]? = xs[j]?) → Ev (fun k => laws_toBoolS.l0 k xs ys i) xs := by
  intro d
  induction d with
  | zero =>
    intro i ys h hy hj
    refine next ?_
    simp only [laws_toBoolS.l0, if_neg (show ¬ (i : Int) < (xs.length : Int) by omega)]
    refine ev_some (List.ext_getElem? fun j => ?_)
    by_cases hlt : j < i
    · exact hj j hlt
    · rw [List.getElem?_eq_none (by omega), List.getElem?_eq_none (by omega)]
  | succ d ih =>
    intro i ys h hy hj
    have hi : i < xs.length := by omega
    refine next ?_
    simp only [laws_toBoolS.l0, if_pos (show (i : Int) < (xs.length : Int) by omega), if_pos (show (0 : Int) ≤ i by omega), if_pos (show (i : Int) < (ys.length : Int) by omega), rdOf_get _ xs i hi, up1 (show i < 9223372036854775807 by omega), Int.toNat_natCast]
    refine ih (i + 1) _ (by omega) (by simp [hy]) (fun j hlt => ?_)
    by_cases e : j = i
    · subst e
      rw [List.getElem?_set_self (by omega), List.getElem?_eq_getElem hi]
    · rw [List.getElem?_set_ne (by omega)]
      exact hj j (by omega)
theorem toBools (xs : List Bool) (hl : xs.length ≤ 1048576) : Ev (fun k => laws_toBoolS.f k xs) xs := by
  simp only [laws_toBoolS.f, if_pos (show (0 : Int) ≤ (xs.length : Int) by omega), Int.toNat_natCast, if_pos (show xs.length ≤ 281474976710656 by omega)]
  exact toBools_l0 xs hl xs.length 0 _ (by omega) (by simp) (fun j hj => by omega)
theorem toInts_l0 (xs : List Int) (hl : xs.length ≤ 1048576) : ∀ (d i : Nat) (ys : List Int), i + d = xs.length → ys.length = xs.length → (∀ j, j < i → ys[j]? = xs[j]?) → Ev (fun k => laws_toIntS.l0 k xs ys i) xs := by
  intro d
  induction d with
  | zero =>
    intro i ys h hy hj
    refine next ?_
    simp only [laws_toIntS.l0, if_neg (show ¬ (i : Int) < (xs.length : Int) by omega)]
    refine ev_some (List.ext_getElem? fun j => ?_)
    by_cases hlt : j < i
    · exact hj j hlt
    · rw [List.getElem?_eq_none (by omega), List.getElem?_eq_none (by omega)]
  | succ d ih =>
    intro i ys h hy hj
    have hi : i < xs.length := by omega
    refine next ?_
    simp only [laws_toIntS.l0, if_pos (show (i : Int) < (xs.length : Int) by omega), if_pos (show (0 : Int) ≤ i by omega), if_pos (show (i : Int) < (ys.length : Int) by omega), rd_get xs i hi, up1 (show i < 9223372036854775807 by omega), Int.toNat_natCast]
    refine ih (i + 1) _ (by omega) (by simp [hy]) (fun j hlt => ?_)
    by_cases e : j = i
    · subst e
      rw [List.getElem?_set_self (by omega), List.getElem?_eq_getElem hi]
    · rw [List.getElem?_set_ne (by omega)]
      exact hj j (by omega)
theorem toInts (xs : List Int) (hl : xs.length ≤ 1048576) : Ev (fun k => laws_toIntS.f k xs) xs := by
  simp only [laws_toIntS.f, if_pos (show (0 : Int) ≤ (xs.length : Int) by omega), Int.toNat_natCast, if_pos (show xs.length ≤ 35184372088832 by omega)]
  exact toInts_l0 xs hl xs.length 0 _ (by omega) (by simp) (fun j hj => by omega)
theorem toRows_l0 (xs : List (List Int)) (hl : xs.length ≤ 1048576) (hx : ∀ x ∈ xs, x.length ≤ 1048576) : ∀ (d i : Nat) (ys : List (List Int)), i + d = xs.length → ys.length = xs.length → (∀ j, j < i → ys[j]? = xs[j]?) → Ev (fun k => laws_toIntSS.l0 k xs ys i) xs := by
  intro d
  induction d with
  | zero =>
    intro i ys h hy hj
    refine next ?_
    simp only [laws_toIntSS.l0, if_neg (show ¬ (i : Int) < (xs.length : Int) by omega)]
    refine ev_some (List.ext_getElem? fun j => ?_)
    by_cases hlt : j < i
    · exact hj j hlt
    · rw [List.getElem?_eq_none (by omega), List.getElem?_eq_none (by omega)]
  | succ d ih =>
    intro i ys h hy hj
    have hi : i < xs.length := by omega
    refine next ?_
    simp only [laws_toIntSS.l0, if_pos (show (i : Int) < (xs.length : Int) by omega), if_pos (show (0 : Int) ≤ i by omega), rows_get xs i hi]
    refine Ev.bind (toInts xs[i] (hx _ (List.getElem_mem _))) ?_
    simp only [if_pos (show (i : Int) < (ys.length : Int) by omega), up1 (show i < 9223372036854775807 by omega), Int.toNat_natCast]
    refine ih (i + 1) _ (by omega) (by simp [hy]) (fun j hlt => ?_)
    by_cases e : j = i
    · subst e
      rw [List.getElem?_set_self (by omega), List.getElem?_eq_getElem hi]
    · rw [List.getElem?_set_ne (by omega)]
      exact hj j (by omega)
theorem toRows (xs : List (List Int)) (hl : xs.length ≤ 1048576) (hx : ∀ x ∈ xs, x.length ≤ 1048576) : Ev (fun k => laws_toIntSS.f k xs) xs := by
  simp only [laws_toIntSS.f, if_pos (show (0 : Int) ≤ (xs.length : Int) by omega), Int.toNat_natCast, if_pos (show xs.length ≤ 11728124029610 by omega)]
  exact toRows_l0 xs hl hx xs.length 0 _ (by omega) (by simp) (fun j hj => by omega)
theorem toDfa (a : List Bool) (n : List (List Int)) (ha : a.length ≤ 1048576) (hn : n.length ≤ 1048576) (hx : ∀ x ∈ n, x.length ≤ 1048576) : Ev (fun k => laws_toDfa.f k a n) (a, n) := by
  simp only [laws_toDfa.f]
  refine Ev.bind (toBools a ha) (Ev.bind (toRows n hn hx) ?_)
  exact Ev.now _
theorem sameInts_l0 (a b : List Int) (hl : a.length = b.length) (hn : a.length ≤ 1048576) : ∀ d i : Nat, i + d = a.length → Ev (fun k => laws_eqIntS.l0 k a b i) (decide (a.drop i = b.drop i)) := by
  intro d
  induction d with
  | zero =>
    intro i h
    refine next ?_
    simp only [laws_eqIntS.l0, if_neg (show ¬ (i : Int) < (a.length : Int) by omega)]
    exact ev_some (by rw [List.drop_eq_nil_of_le (by omega), List.drop_eq_nil_of_le (by omega)]; simp)
  | succ d ih =>
    intro i h
    refine next ?_
    have ha : i < a.length := by omega
    have hb : i < b.length := by omega
    have e : (a.drop i = b.drop i) ↔ (a[i] = b[i] ∧ a.drop (i + 1) = b.drop (i + 1)) := by
      rw [List.drop_eq_getElem_cons ha, List.drop_eq_getElem_cons hb]
      exact List.cons_eq_cons
    simp only [laws_eqIntS.l0, if_pos (show (i : Int) < (a.length : Int) by omega), if_pos (show (0 : Int) ≤ i by omega), if_pos (show (i : Int) < (b.length : Int) by omega), rd_get a i ha, rd_get b i hb]
    by_cases he : a[i] = b[i]
    · simp only [if_pos he, up1 (show i < 9223372036854775807 by omega)]
      exact ev_eq (ih (i + 1) (by omega)) (decide_eq_decide.mpr (by rw [e]; exact ⟨fun x => ⟨he, x⟩, fun x => x.2⟩))
    · simp only [if_neg he]
      exact ev_some (by rw [eq_comm, decide_eq_false_iff_not, e]; exact fun x => he x.1)
theorem sameInts (a b : List Int) (hn : a.length ≤ 1048576) : Ev (fun k => laws_eqIntS.f k a b) (decide (a = b)) := by
  simp only [laws_eqIntS.f]
  by_cases h : a.length = b.length
  · simp only [if_pos (show (a.length : Int) = (b.length : Int) by omega)]
    exact sameInts_l0 a b h hn a.length 0 (by omega)
  · simp only [if_neg (show ¬ (a.length : Int) = (b.length : Int) by omega)]
    exact ev_some (by simp; intro e; exact h (by rw [e]))
theorem sameBools_l0 (a b : List Bool) (hl : a.length = b.length) (hn : a.length ≤ 1048576) : ∀ d i : Nat, i + d = a.length → Ev (fun k => laws_eqBoolS.l0 k a b i) (decide (a.drop i = b.drop i)) := by
  intro d
  induction d with
  | zero =>
    intro i h
    refine next ?_
    simp only [laws_eqBoolS.l0, if_neg (show ¬ (i : Int) < (a.length : Int) by omega)]
    exact ev_some (by rw [List.drop_eq_nil_of_le (by omega), List.drop_eq_nil_of_le (by omega)]; simp)
  | succ d ih =>
    intro i h
    refine next ?_
    have ha : i < a.length := by omega
    have hb : i < b.length := by omega
    have e : (a.drop i = b.drop i) ↔ (a[i] = b[i] ∧ a.drop (i + 1) = b.drop (i + 1)) := by
      rw [List.drop_eq_getElem_cons ha, List.drop_eq_getElem_cons hb]
      exact List.cons_eq_cons
    simp only [laws_eqBoolS.l0, if_pos (show (i : Int) < (a.length : Int) by omega), if_pos (show (0 : Int) ≤ i by omega), if_pos (show (i : Int) < (b.length : Int) by omega), rdOf_get _ a i ha, rdOf_get _ b i hb]
    by_cases he : a[i] = b[i]
    · simp only [show (a[i] != b[i]) = false from bne_eq_false_iff_eq.mpr he, Bool.false_ne_true, if_false, up1 (show i < 9223372036854775807 by omega)]
      exact ev_eq (ih (i + 1) (by omega)) (decide_eq_decide.mpr (by rw [e]; exact ⟨fun x => ⟨he, x⟩, fun x => x.2⟩))
    · simp only [show (a[i] != b[i]) = true from bne_iff_ne.mpr he, if_true]
      exact ev_some (by rw [eq_comm, decide_eq_false_iff_not, e]; exact fun x => he x.1)
theorem sameBools (a b : List Bool) (hn : a.length ≤ 1048576) : Ev (fun k => laws_eqBoolS.f k a b) (decide (a = b)) := by
  simp only [laws_eqBoolS.f]
  by_cases h : a.length = b.length
  · simp only [if_pos (show (a.length : Int) = (b.length : Int) by omega)]
    exact sameBools_l0 a b h hn a.length 0 (by omega)
  · simp only [if_neg (show ¬ (a.length : Int) = (b.length : Int) by omega)]
    exact ev_some (by simp; intro e; exact h (by rw [e]))
theorem sameRows_l0 (a b : List (List Int)) (hl : a.length = b.length) (hn : a.length ≤ 1048576) (hx : ∀ x ∈ a, x.length ≤ 1048576) : ∀ d i : Nat, i + d = a.length → Ev (fun k => laws_eqIntSS.l0 k a b i) (decide (a.drop i = b.drop i)) := by
  intro d
  induction d with
  | zero =>
    intro i h
    refine next ?_
    simp only [laws_eqIntSS.l0, if_neg (show ¬ (i : Int) < (a.length : Int) by omega)]
    exact ev_some (by rw [List.drop_eq_nil_of_le (by omega), List.drop_eq_nil_of_le (by omega)]; simp)
  | succ d ih =>
    intro i h
    refine next ?_
    have ha : i < a.length := by omega
    have hb : i < b.length := by omega
    have e : (a.drop i = b.drop i) ↔ (a[i] = b[i] ∧ a.drop (i + 1) = b.drop (i + 1)) := by
      rw [List.drop_eq_getElem_cons ha, List.drop_eq_getElem_cons hb]
      exact List.cons_eq_cons
    simp only [laws_eqIntSS.l0, if_pos (show (i : Int) < (a.length : Int) by omega), if_pos (show (0 : Int) ≤ i by omega), if_pos (show (i : Int) < (b.length : Int) by omega), rows_get a i ha, rows_get b i hb]
    refine Ev.bind (sameInts a[i] b[i] (hx _ (List.getElem_mem _))) ?_
    by_cases he : a[i] = b[i]
    · simp only [decide_eq_true he, if_true, up1 (show i < 9223372036854775807 by omega)]
      exact ev_eq (ih (i + 1) (by omega)) (decide_eq_decide.mpr (by rw [e]; exact ⟨fun x => ⟨he, x⟩, fun x => x.2⟩))
    · simp only [decide_eq_false he, Bool.false_ne_true, if_false]
      exact ev_some (by rw [eq_comm, decide_eq_false_iff_not, e]; exact fun x => he x.1)
theorem sameRows (a b : List (List Int)) (hn : a.length ≤ 1048576) (hx : ∀ x ∈ a, x.length ≤ 1048576) : Ev (fun k => laws_eqIntSS.f k a b) (decide (a = b)) := by
  simp only [laws_eqIntSS.f]
  by_cases h : a.length = b.length
  · simp only [if_pos (show (a.length : Int) = (b.length : Int) by omega)]
    exact sameRows_l0 a b h hn hx a.length 0 (by omega)
  · simp only [if_neg (show ¬ (a.length : Int) = (b.length : Int) by omega)]
    exact ev_some (by simp; intro e; exact h (by rw [e]))
theorem sameDfa (a : List Bool) (n : List (List Int)) (a2 : List Bool) (n2 : List (List Int)) (ha : a.length ≤ 1048576) (hn : n.length ≤ 1048576) (hx : ∀ x ∈ n, x.length ≤ 1048576) : Ev (fun k => laws_eqDfa.f k a n a2 n2) (decide (a = a2) && decide (n = n2)) := by
  simp only [laws_eqDfa.f]
  refine Ev.bind (sameBools a a2 ha) ?_
  by_cases h1 : a = a2
  · simp only [decide_eq_true h1, if_true, Bool.true_and]
    refine Ev.bind (sameRows n n2 hn hx) ?_
    by_cases h2 : n = n2
    · simp only [decide_eq_true h2, if_true]
      exact Ev.now _
    · simp only [decide_eq_false h2, Bool.false_ne_true, if_false]
      exact Ev.now _
  · simp only [decide_eq_false h1, Bool.false_ne_true, if_false, Bool.false_and]
    exact Ev.now _
theorem spec_in (a lo hi : Int) : spec_l1In.f a lo hi = some (decide (lo ≤ a) && decide (a ≤ hi)) := by
  unfold spec_l1In.f
  by_cases h : a ≥ lo
  · rw [if_pos h, decide_eq_true (show lo ≤ a from h), Bool.true_and]
  · rw [if_neg h, decide_eq_false (show ¬ lo ≤ a from h), Bool.false_and]
theorem badState_eq (n q : Int) : badState n q = !(decide (0 ≤ q) && decide (q ≤ n - 1)) := by
  unfold badState
  cases decide (0 ≤ q) <;> cases decide (q ≤ n - 1) <;> rfl
theorem spec_valid_l1 (acc : List Bool) (nxt : List (List Int)) (q : Nat) (hq : q < nxt.length) (hnl : nxt.length ≤ 1048576) (h3 : nxt[q].length = 3) (hn1 : 1 ≤ acc.length) (hn : acc.length ≤ 40) (res : Bool) (h : Ev (fun k => spec_IsValidDfa.l0 k (acc.length : Int) ((q + 1 : Nat) : Int) acc nxt) res) :
    ∀ d i : Nat, i + d = 3 → Ev (fun k => spec_IsValidDfa.l1 k (acc.length : Int) q i acc nxt) (if (nxt[q].drop i).any (badState acc.length) = true then false else res) := by
  intro d
  induction d with
  | zero =>
    intro i hd
    refine next ?_
    simp only [spec_IsValidDfa.l1, if_pos (show (0 : Int) ≤ q by omega), if_pos (show (q : Int) < (nxt.length : Int) by omega), rows_get nxt q hq, if_neg (show ¬ (i : Int) < (nxt[q].length : Int) by omega)]
    rw [List.drop_eq_nil_of_le (by omega), List.any_nil, if_neg (by simp)]
    simp only [up1 (show q < 9223372036854775807 by omega)]
    exact h
  | succ d ih =>
    intro i hd
    refine next ?_
    have hi : i < nxt[q].length := by omega
    have hw : wrap64 ((acc.length : Int) - 1) = (acc.length : Int) - 1 := w64 (by omega) (by omega)
    simp only [spec_IsValidDfa.l1, if_pos (show (0 : Int) ≤ q by omega), if_pos (show (q : Int) < (nxt.length : Int) by omega), rows_get nxt q hq, if_pos (show (i : Int) < (nxt[q].length : Int) by omega), if_pos (show (0 : Int) ≤ i by omega), rd_get nxt[q] i hi, spec_in, Option.bind_some, hw, up1 (show i < 9223372036854775807 by omega)]
    rw [List.drop_eq_getElem_cons hi, List.any_cons]
    have hbe := badState_eq (acc.length : Int) nxt[q][i]
    by_cases hb : badState acc.length nxt[q][i] = true
    · have hb2 : (decide (0 ≤ nxt[q][i]) && decide (nxt[q][i] ≤ (acc.length : Int) - 1)) = false := by
        rw [hb] at hbe
        cases hc : (decide (0 ≤ nxt[q][i]) && decide (nxt[q][i] ≤ (acc.length : Int) - 1)) with
        | true => rw [hc] at hbe; cases hbe
        | false => rfl
      simp only [hb2, Bool.false_ne_true, if_false, hb, Bool.true_or, if_true]
      exact Ev.now _
    · have hb2 : (decide (0 ≤ nxt[q][i]) && decide (nxt[q][i] ≤ (acc.length : Int) - 1)) = true := by
        rw [eq_false_of_ne_true hb] at hbe
        cases hc : (decide (0 ≤ nxt[q][i]) && decide (nxt[q][i] ≤ (acc.length : Int) - 1)) with
        | true => rfl
        | false => rw [hc] at hbe; cases hbe
      simp only [hb2, if_true, eq_false_of_ne_true hb, Bool.false_or]
      exact ih (i + 1) (by omega)
theorem spec_valid_l0 (acc : List Bool) (nxt : List (List Int)) (hl : nxt.length = acc.length) (hn1 : 1 ≤ acc.length) (hn : acc.length ≤ 40) :
    ∀ d q : Nat, q + d = acc.length → Ev (fun k => spec_IsValidDfa.l0 k (acc.length : Int) q acc nxt) (!((nxt.drop q).any (badRow acc.length))) := by
  intro d
  induction d with
  | zero =>
    intro q hd
    refine next ?_
    simp only [spec_IsValidDfa.l0, if_neg (show ¬ (q : Int) < (acc.length : Int) by omega)]
    exact ev_some (by rw [List.drop_eq_nil_of_le (by omega)]; rfl)
  | succ d ih =>
    intro q hd
    have hq : q < nxt.length := by omega
    refine next ?_
    simp only [spec_IsValidDfa.l0, if_pos (show (q : Int) < (acc.length : Int) by omega), if_pos (show (0 : Int) ≤ q by omega), if_pos (show (q : Int) < (nxt.length : Int) by omega), rows_get nxt q hq]
    rw [List.drop_eq_getElem_cons hq, List.any_cons]
    by_cases h3 : nxt[q].length = 3
    · simp only [if_pos (show (nxt[q].length : Int) = 3 by omega)]
      refine ev_eq (spec_valid_l1 acc nxt q hq (by omega) h3 hn1 hn _ (ih (q + 1) (by omega)) 3 0 rfl) ?_
      rw [List.drop_zero]
      have e : badRow acc.length nxt[q] = nxt[q].any (badState acc.length) := by simp [badRow, h3]
      rw [e]
      cases nxt[q].any (badState acc.length) <;> simp
    · simp only [if_neg (show ¬ (nxt[q].length : Int) = 3 by omega)]
      exact ev_some (by simp [badRow, h3])
theorem spec_valid (acc : List Bool) (nxt : List (List Int)) (ha : acc.length ≤ 1048576) (hn : nxt.length ≤ 1048576) : Ev (fun k => spec_IsValidDfa.f k acc nxt) (validD acc nxt) := by
  have jt : ∀ b : Bool, Ev (fun k => spec_IsValidDfa.j0 k (acc.length : Int) true acc nxt) false := by
    intro b
    refine next ?_
    simp only [spec_IsValidDfa.j0, if_true]
    exact Ev.now _
  simp only [spec_IsValidDfa.f, spec_in, Option.bind_some, validD]
  by_cases h : 1 ≤ acc.length ∧ acc.length ≤ 40
  · have e1 : (decide ((1 : Int) ≤ (acc.length : Int)) && decide ((acc.length : Int) ≤ 40)) = true := by
      rw [decide_eq_true (show (1 : Int) ≤ (acc.length : Int) by omega), decide_eq_true (show (acc.length : Int) ≤ 40 by omega)]; rfl
    simp only [e1, if_true, decide_eq_true h.1, decide_eq_true h.2, Bool.true_and]
    by_cases hl : nxt.length = acc.length
    · have e2 : ((nxt.length : Int) != (acc.length : Int)) = false := by rw [bne_eq_false_iff_eq]; omega
      simp only [e2, decide_eq_true hl, Bool.true_and]
      refine next ?_
      simp only [spec_IsValidDfa.j0, Bool.false_ne_true, if_false]
      exact spec_valid_l0 acc nxt hl h.1 h.2 acc.length 0 (by omega)
    · have e2 : ((nxt.length : Int) != (acc.length : Int)) = true := by rw [bne_iff_ne]; omega
      simp only [e2, decide_eq_false hl, Bool.false_and]
      exact jt true
  · have e1 : (decide ((1 : Int) ≤ (acc.length : Int)) && decide ((acc.length : Int) ≤ 40)) = false := by
      by_cases h1 : 1 ≤ acc.length
      · rw [decide_eq_false (show ¬ (acc.length : Int) ≤ 40 by omega), Bool.and_false]
      · rw [decide_eq_false (show ¬ (1 : Int) ≤ (acc.length : Int) by omega), Bool.false_and]
    have e2 : (decide (1 ≤ acc.length) && decide (acc.length ≤ 40)) = false := by
      by_cases h1 : 1 ≤ acc.length
      · rw [decide_eq_false (show ¬ acc.length ≤ 40 by omega), Bool.and_false]
      · rw [decide_eq_false h1, Bool.false_and]
    simp only [e1, e2, Bool.false_ne_true, if_false, Bool.false_and]
    exact jt true
theorem valid_facts {acc : List Bool} {nxt : List (List Int)} (h : validD acc nxt = true) : 1 ≤ acc.length ∧ acc.length ≤ 40 ∧ nxt.length = acc.length ∧ ∀ r ∈ nxt, r.length = 3 ∧ ∀ x ∈ r, 0 ≤ x ∧ x < (acc.length : Int) := by
  simp only [validD, Bool.and_eq_true, decide_eq_true_eq, Bool.not_eq_true', List.any_eq_false] at h
  obtain ⟨⟨⟨h1, h2⟩, h3⟩, h4⟩ := h
  refine ⟨h1, h2, h3, fun r hr => ?_⟩
  have := h4 r hr
  simp only [badRow, Bool.or_eq_true, decide_eq_true_eq, not_or, List.any_eq_true, not_exists, not_and] at this
  refine ⟨by omega, fun x hx => ?_⟩
  have hb := this.2 x hx
  rw [badState_eq] at hb
  simp at hb
  omega
theorem next_range {acc : List Bool} {nxt : List (List Int)} (h : validD acc nxt = true) (q : Int) (h0 : 0 ≤ q) (h1 : q < (acc.length : Int)) (i : Int) (hi0 : 0 ≤ i) (hi1 : i < 3) : (rd_L1 nxt q).length = 3 ∧ 0 ≤ rd (rd_L1 nxt q) i ∧ rd (rd_L1 nxt q) i < (acc.length : Int) := by
  obtain ⟨_, _, hl, hr⟩ := valid_facts h
  obtain ⟨n, rfl⟩ := Int.eq_ofNat_of_zero_le h0
  obtain ⟨j, rfl⟩ := Int.eq_ofNat_of_zero_le hi0
  have hn : n < nxt.length := by omega
  rw [rows_get nxt n hn]
  have h3 := hr nxt[n] (List.getElem_mem _)
  have hj : j < nxt[n].length := by omega
  rw [rd_get _ j hj]
  exact ⟨h3.1, h3.2 _ (List.getElem_mem _)⟩
theorem lens {n : List (List Int)} (w : Rk.rowsOf (Rk.rowsOf (Rk.wfI .i64)) n) : ∀ r ∈ n, r.length ≤ 9223372036854775807 := fun r hr => (w.2 r hr).1
end Go.Proofs.Ytpgdhpnmagmooaa.Pl
end
section
namespace Go.Proofs.Ytpgdhpnmagmooaa.Rc
open Go.RowKit Go.Proofs.Ytpgdhpnmagmooaa Go.Proofs.Ytpgdhpnmagmooaa.P Go.Proofs.Ytpgdhpnmagmooaa.Pl Go.Proofs.YtpgdhpnmagmooaaW.PrintWords Go.Proofs.YtpgdhpnmagmooaaW.PrintLast Go.Proofs.YtpgdhpnmagmooaaW.PrintMore
set_option linter.unusedVariables false
set_option linter.unusedSimpArgs false
theorem put_l0 (l : List Int) (q : Int) (hl : l.length ≤ 100000) : ∀ d i : Nat, i + d = l.length → Ev (fun k => spec_l6Put.l0 k l q (i : Int)) (l.take i ++ putI q (l.drop i))
  | 0, i, hi => by
    refine next ?_
    have hd : l.drop i = [] := List.drop_eq_nil_of_le (by omega)
    have ht : l.take i = l := List.take_of_length_le (by omega)
    simp only [spec_l6Put.l0, if_neg (show ¬ (i : Int) < (l.length : Int) by omega), if_pos (show (0 : Int) ≤ (i : Int) by omega), if_pos (show (i : Int) ≤ (l.length : Int) by omega), Option.bind_some, Int.toNat_natCast, hd, ht, List.nil_append, List.append_nil, List.length_nil, Nat.zero_add, List.length_append, List.length_cons, Nat.add_zero, if_pos (show l.length < 17592186044416 by omega), if_pos (show l.length + 1 < 17592186044416 by omega), putI]
    exact Ev.now _
  | d + 1, i, hi => by
    have h : i < l.length := by omega
    refine next ?_
    have hd : l.drop i = l[i] :: l.drop (i + 1) := List.drop_eq_getElem_cons h
    simp only [spec_l6Put.l0, if_pos (show (i : Int) < (l.length : Int) by omega), if_pos (show (0 : Int) ≤ (i : Int) by omega), rd_get l i h]
    rw [hd, putI]
    by_cases h1 : l[i] < q
    · simp only [if_pos h1]
      rw [up1 (by omega)]
      refine ev_eq (put_l0 l q hl d (i + 1) (by omega)) ?_
      rw [List.take_succ_eq_append_getElem h, List.append_assoc, List.singleton_append]
    · simp only [if_neg h1]
      by_cases h2 : l[i] = q
      · simp only [if_pos h2]
        refine ev_some ?_
        rw [← hd]
        simp
      · have ht : (l.take i).length = i := by rw [List.length_take]; omega
        simp only [if_neg h2, if_pos (show (i : Int) ≤ (l.length : Int) by omega), Option.bind_some, Int.toNat_natCast, List.nil_append, List.length_nil, Nat.zero_add, ht, List.length_append, List.length_cons, List.length_drop, if_pos (show i < 17592186044416 by omega), if_pos (show i + 1 + (l.length - i) < 17592186044416 by omega)]
        refine ev_some ?_
        rw [← hd]
        simp
theorem put_ev (l : List Int) (q : Int) (hl : l.length ≤ 100000) : Ev (fun k => spec_l6Put.f k l q) (putI q l) := by
  simp only [spec_l6Put.f]
  have := put_l0 l q hl l.length 0 (by omega)
  simpa using this
theorem puts_most : ∀ (ys acc : List Int), (puts ys acc).length ≤ acc.length + ys.length
  | [], acc => Nat.le_refl _
  | y :: ys, acc => by
    have h1 := puts_most ys (putI y acc)
    have h2 : (putI y acc).length ≤ acc.length + 1 := by
      have : ∀ l : List Int, (putI y l).length ≤ l.length + 1 := by
        intro l
        induction l with
        | nil => simp [putI]
        | cons x t ih => rw [putI]; split
                         · simp only [List.length_cons]; omega
                         · split <;> simp only [List.length_cons] <;> omega
      exact this acc
    have e : puts (y :: ys) acc = puts ys (putI y acc) := rfl
    rw [e]
    simp only [List.length_cons]
    omega
end Go.Proofs.Ytpgdhpnmagmooaa.Rc
end
section
namespace Go.Proofs.Ytpgdhpnmagmooaa.Rc
open Go.RowKit Go.Proofs.Ytpgdhpnmagmooaa Go.Proofs.Ytpgdhpnmagmooaa.P Go.Proofs.YtpgdhpnmagmooaaW.PrintWords Go.Proofs.YtpgdhpnmagmooaaW.PrintLast Go.Proofs.YtpgdhpnmagmooaaW.PrintMore
set_option linter.unusedVariables false
set_option linter.unusedSimpArgs false
def U64 (s : Int) : Prop := 0 ≤ s ∧ s < 18446744073709551616
def bit (s : Int) (q : Nat) : Bool := s.toNat.testBit q
theorem and_nat {m n : Nat} (hm : m < 18446744073709551616) (hn : n < 18446744073709551616) : Go.bits .and .u64 (m : Int) (n : Int) = ((m &&& n : Nat) : Int) := by
  show IntKind.u64.wrap ((BitVec.ofInt 64 (m : Int) &&& BitVec.ofInt 64 (n : Int)).toNat : Int) = _
  have h : (BitVec.ofInt 64 (m : Int) &&& BitVec.ofInt 64 (n : Int)).toNat = m &&& n := by
    rw [BitVec.toNat_and, BitVec.ofInt_natCast, BitVec.ofInt_natCast, BitVec.toNat_ofNat, BitVec.toNat_ofNat, Nat.mod_eq_of_lt (by omega), Nat.mod_eq_of_lt (by omega)]
  have hl : m &&& n ≤ n := Nat.and_le_right
  rw [h, IntKind.wrap_u64]
  omega
theorem or_nat {m n : Nat} (hm : m < 18446744073709551616) (hn : n < 18446744073709551616) : Go.bits .or .u64 (m : Int) (n : Int) = ((m ||| n : Nat) : Int) := by
  show IntKind.u64.wrap ((BitVec.ofInt 64 (m : Int) ||| BitVec.ofInt 64 (n : Int)).toNat : Int) = _
  have h : (BitVec.ofInt 64 (m : Int) ||| BitVec.ofInt 64 (n : Int)).toNat = m ||| n := by
    rw [BitVec.toNat_or, BitVec.ofInt_natCast, BitVec.ofInt_natCast, BitVec.toNat_ofNat, BitVec.toNat_ofNat, Nat.mod_eq_of_lt (by omega), Nat.mod_eq_of_lt (by omega)]
  have hl : m ||| n < 2 ^ 64 := Nat.or_lt_two_pow (by omega) (by omega)
  rw [h, IntKind.wrap_u64]
  omega
theorem bit_test {s : Int} (h : U64 s) {q : Nat} (hq : q < 64) : (Go.bits .and .u64 (shr .u64 s (q : Int)) 1 = 1) ↔ bit s q = true := by
  obtain ⟨m, rfl⟩ : ∃ m : Nat, s = (m : Int) := ⟨s.toNat, by have := h.1; omega⟩
  have hm : m < 18446744073709551616 := by have := h.2; omega
  have e : shr .u64 (m : Int) (q : Int) = ((m / 2 ^ q : Nat) : Int) := by
    unfold shr
    rw [Int.toNat_natCast, Nat.min_eq_left (show q ≤ IntKind.u64.bits by show q ≤ 64; omega)]
    norm_cast
  have hd : m / 2 ^ q ≤ m := Nat.div_le_self _ _
  rw [e, show (1 : Int) = ((1 : Nat) : Int) from rfl, and_nat (by omega) (by omega), Nat.and_one_is_mod]
  unfold bit
  rw [Int.toNat_natCast, Nat.testBit_eq_decide_div_mod_eq, decide_eq_true_iff]
  constructor
  · intro h; omega
  · intro h; omega
theorem bit_or {s : Int} (h : U64 s) {q : Nat} (hq : q < 64) : U64 (Go.bits .or .u64 s (shl .u64 1 (q : Int))) ∧ ∀ p, bit (Go.bits .or .u64 s (shl .u64 1 (q : Int))) p = (bit s p || decide (p = q)) := by
  obtain ⟨m, rfl⟩ : ∃ m : Nat, s = (m : Int) := ⟨s.toNat, by have := h.1; omega⟩
  have hm : m < 18446744073709551616 := by have := h.2; omega
  have hp : 2 ^ q < 2 ^ 64 := Nat.pow_lt_pow_right (by omega) hq
  have e : shl .u64 1 (q : Int) = ((2 ^ q : Nat) : Int) := by
    unfold shl
    rw [Int.toNat_natCast, Nat.min_eq_left (show q ≤ IntKind.u64.bits by show q ≤ 64; omega), IntKind.wrap_u64]
    have : ((2 : Int) ^ q) = ((2 ^ q : Nat) : Int) := by norm_cast
    rw [Int.one_mul, this]
    generalize 2 ^ q = c at hp ⊢
    omega
  rw [e, or_nat hm (by omega)]
  have hl : m ||| 2 ^ q < 2 ^ 64 := Nat.or_lt_two_pow (by omega) hp
  refine ⟨⟨by omega, by omega⟩, fun p => ?_⟩
  unfold bit
  rw [Int.toNat_natCast, Int.toNat_natCast, Nat.testBit_or, Nat.testBit_two_pow]
  congr 1
  exact decide_eq_decide.mpr ⟨fun h => h.symm, fun h => h.symm⟩
theorem or_bits {s t : Int} (hs : U64 s) (ht : U64 t) : U64 (Go.bits .or .u64 s t) ∧ ∀ p, bit (Go.bits .or .u64 s t) p = (bit s p || bit t p) := by
  obtain ⟨m, rfl⟩ : ∃ m : Nat, s = (m : Int) := ⟨s.toNat, by have := hs.1; omega⟩
  obtain ⟨k, rfl⟩ : ∃ k : Nat, t = (k : Int) := ⟨t.toNat, by have := ht.1; omega⟩
  have hm : m < 18446744073709551616 := by have := hs.2; omega
  have hk : k < 18446744073709551616 := by have := ht.2; omega
  rw [or_nat hm hk]
  have hl : m ||| k < 2 ^ 64 := Nat.or_lt_two_pow (by omega) (by omega)
  refine ⟨⟨by omega, by omega⟩, fun p => ?_⟩
  unfold bit
  rw [Int.toNat_natCast, Int.toNat_natCast, Int.toNat_natCast, Nat.testBit_or]
theorem bit_zero (p : Nat) : bit 0 p = false := by
  unfold bit
  simp
def at_ (l : List Int) (q : Nat) : Int := l.getD q 0
def Good (n : Nat) (l : List Int) : Prop := l.length = n ∧ ∀ q, q < n → U64 (at_ l q)
def clX (l : List Int) (q x : Nat) : List Int := if bit (at_ l q) x = true then l.set q (Go.bits .or .u64 (at_ l q) (at_ l x)) else l
theorem at_set {l : List Int} {q : Nat} (hq : q < l.length) (v : Int) (p : Nat) : at_ (l.set q v) p = if p = q then v else at_ l p := by
  unfold at_
  rw [List.getD_eq_getElem?_getD, List.getElem?_set]
  by_cases e : p = q
  · subst e
    rw [if_pos rfl, if_pos hq, if_pos rfl]
    rfl
  · rw [if_neg (fun h => e h.symm), if_neg e, List.getD_eq_getElem?_getD]
def Sub (n : Nat) (l m : List Int) : Prop := ∀ q, q < n → ∀ y, bit (at_ l q) y = true → bit (at_ m q) y = true
theorem Sub.refl (n : Nat) (l : List Int) : Sub n l l := fun _ _ _ h => h
theorem Sub.trans {n : Nat} {l m k : List Int} (h : Sub n l m) (h2 : Sub n m k) : Sub n l k := fun q hq y hb => h2 q hq y (h q hq y hb)
def Snd (n : Nat) (R : Nat → Nat → Prop) (l : List Int) : Prop := ∀ q, q < n → ∀ y, bit (at_ l q) y = true → y < n ∧ R q y
theorem clX_ok {n : Nat} {R : Nat → Nat → Prop} (hR : ∀ a b c, R a b → R b c → R a c) {l : List Int} {q x : Nat} (hl : Good n l) (hS : Snd n R l) (hq : q < n) (hx : x < n) :
    Good n (clX l q x) ∧ Snd n R (clX l q x) ∧ Sub n l (clX l q x) ∧ (∀ y, bit (at_ l q) x = true → bit (at_ l x) y = true → bit (at_ (clX l q x) q) y = true) := by
  unfold clX
  by_cases h : bit (at_ l q) x = true
  · rw [if_pos h]
    obtain ⟨u1, u2⟩ := or_bits (hl.2 q hq) (hl.2 x hx)
    have hs := fun p => at_set (l := l) (q := q) (by rw [hl.1]; exact hq) (Go.bits .or .u64 (at_ l q) (at_ l x)) p
    refine ⟨⟨by rw [List.length_set]; exact hl.1, fun p hp => ?_⟩, fun p hp y hy => ?_, fun p hp y hy => ?_, fun y _ hy => ?_⟩
    · rw [hs]; split
      · exact u1
      · exact hl.2 p hp
    · rw [hs] at hy
      split at hy
      · rename_i e; subst e
        rw [u2, Bool.or_eq_true] at hy
        rcases hy with hy | hy
        · exact hS _ hq y hy
        · exact ⟨(hS x hx y hy).1, hR _ _ _ (hS _ hq x h).2 (hS x hx y hy).2⟩
      · exact hS p hp y hy
    · rw [hs]; split
      · rename_i e; subst e; rw [u2, hy]; rfl
      · exact hy
    · rw [hs, if_pos rfl, u2, hy, Bool.or_true]
  · rw [if_neg h]
    exact ⟨hl, hS, Sub.refl _ _, fun y hy => absurd hy h⟩
def clR (l : List Int) (q : Nat) : Nat → Nat → List Int
  | 0, _ => l
  | d + 1, x => clR (clX l q x) q d (x + 1)
theorem clR_ok {n : Nat} {R : Nat → Nat → Prop} (hR : ∀ a b c, R a b → R b c → R a c) {q : Nat} (hq : q < n) : ∀ (d x : Nat) (l : List Int), x + d = n → Good n l → Snd n R l →
    Good n (clR l q d x) ∧ Snd n R (clR l q d x) ∧ Sub n l (clR l q d x) ∧ (∀ z y, x ≤ z → z < n → bit (at_ l q) z = true → bit (at_ l z) y = true → bit (at_ (clR l q d x) q) y = true)
  | 0, x, l, h, hl, hS => ⟨hl, hS, Sub.refl _ _, fun z y h1 h2 => by omega⟩
  | d + 1, x, l, h, hl, hS => by
    obtain ⟨a1, a2, a3, a4⟩ := clX_ok hR hl hS hq (show x < n by omega)
    obtain ⟨b1, b2, b3, b4⟩ := clR_ok hR hq d (x + 1) (clX l q x) (by omega) a1 a2
    refine ⟨b1, b2, a3.trans b3, fun z y h1 h2 h3 h4 => ?_⟩
    by_cases e : z = x
    · subst e; exact b3 q hq y (a4 y h3 h4)
    · exact b4 z y (by omega) h2 (a3 q hq z h3) (a3 z h2 y h4)
def clQ (n : Nat) (l : List Int) : Nat → Nat → List Int
  | 0, _ => l
  | d + 1, q => clQ n (clR l q n 0) d (q + 1)
theorem clQ_ok {n : Nat} {R : Nat → Nat → Prop} (hR : ∀ a b c, R a b → R b c → R a c) : ∀ (d q : Nat) (l : List Int), q + d = n → Good n l → Snd n R l →
    Good n (clQ n l d q) ∧ Snd n R (clQ n l d q) ∧ Sub n l (clQ n l d q) ∧ (∀ p z y, q ≤ p → p < n → z < n → bit (at_ l p) z = true → bit (at_ l z) y = true → bit (at_ (clQ n l d q) p) y = true)
  | 0, q, l, h, hl, hS => ⟨hl, hS, Sub.refl _ _, fun p z y h1 h2 => by omega⟩
  | d + 1, q, l, h, hl, hS => by
    obtain ⟨a1, a2, a3, a4⟩ := clR_ok hR (show q < n by omega) n 0 l (by omega) hl hS
    obtain ⟨b1, b2, b3, b4⟩ := clQ_ok hR d (q + 1) (clR l q n 0) (by omega) a1 a2
    refine ⟨b1, b2, a3.trans b3, fun p z y h1 h2 h3 h4 h5 => ?_⟩
    by_cases e : p = q
    · subst e; exact b3 _ h2 y (a4 z y (Nat.zero_le _) h3 h4 h5)
    · exact b4 p z y (by omega) h2 h3 (a3 p h2 z h4) (a3 z h3 y h5)
def clN (n : Nat) : Nat → List Int → List Int
  | 0, l => l
  | d + 1, l => clN n d (clQ n l n 0)
theorem clN_ok {n : Nat} {R : Nat → Nat → Prop} (hR : ∀ a b c, R a b → R b c → R a c) : ∀ (d : Nat) (l : List Int), Good n l → Snd n R l →
    Good n (clN n d l) ∧ Snd n R (clN n d l) ∧ Sub n l (clN n d l) ∧ ∃ B : Nat → Nat → Nat → Prop, (∀ q y, B 0 q y ↔ bit (at_ l q) y = true) ∧ (∀ i q x y, i < d → q < n → x < n → B i q x → B i x y → B (i + 1) q y) ∧ (∀ i q y, i < d → q < n → B i q y → B (i + 1) q y) ∧ ∀ q y, B d q y ↔ bit (at_ (clN n d l) q) y = true
  | 0, l, hl, hS => ⟨hl, hS, Sub.refl _ _, fun _ q y => bit (at_ l q) y = true, fun _ _ => Iff.rfl, fun _ _ _ _ h => absurd h (by omega), fun _ _ _ h => absurd h (by omega), fun _ _ => Iff.rfl⟩
  | d + 1, l, hl, hS => by
    obtain ⟨a1, a2, a3, a4⟩ := clQ_ok hR n 0 l (by omega) hl hS
    obtain ⟨b1, b2, b3, B, c1, c2, c3, c4⟩ := clN_ok hR d (clQ n l n 0) a1 a2
    refine ⟨b1, b2, a3.trans b3, fun i q y => match i with
      | 0 => bit (at_ l q) y = true
      | i + 1 => B i q y, fun _ _ => Iff.rfl, fun i q x y hi hq hx h1 h2 => ?_, fun i q y hi hq h1 => ?_, c4⟩
    · cases i with
      | zero => exact (c1 q y).2 (a4 q x y (Nat.zero_le _) hq hx h1 h2)
      | succ i => exact c2 i q x y (by omega) hq hx h1 h2
    · cases i with
      | zero => exact (c1 q y).2 (a3 q hq y h1)
      | succ i => exact c3 i q y (by omega) hq h1
end Go.Proofs.Ytpgdhpnmagmooaa.Rc
end
section
namespace Go.Proofs.Ytpgdhpnmagmooaa.Rc
open Go.RowKit Go.Proofs.Ytpgdhpnmagmooaa Go.Proofs.Ytpgdhpnmagmooaa.P Go.Proofs.YtpgdhpnmagmooaaW.PrintWords Go.Proofs.YtpgdhpnmagmooaaW.PrintLast Go.Proofs.YtpgdhpnmagmooaaW.PrintMore
set_option linter.unusedVariables false
set_option linter.unusedSimpArgs false
theorem full_upto {row : Int → List Int} {n D : Nat} {B : Nat → Nat → Nat → Prop} (h0 : ∀ q y : Nat, q < n → (y : Int) ∈ row q → B 0 q y) (hr : ∀ x, 0 ≤ x → x < (n : Int) → ∀ y ∈ row x, 0 ≤ y ∧ y < (n : Int))
    (hs : ∀ i q x y, i < D → q < n → x < n → B i q x → B i x y → B (i + 1) q y) (hg : ∀ i q y, i < D → q < n → B i q y → B (i + 1) q y) :
    ∀ (i r : Nat) (q y : Nat), i ≤ D → r ≤ i + 1 → q < n → Rn row q r y → B i q y
  | 0, r, q, y, hi, h, hq, hR => by
    rcases hR.first with ⟨_, h1⟩ | ⟨x, s, rfl, _, h2⟩
    · exact h0 q y hq h1
    · have := h2.pos; omega
  | i + 1, r, q, y, hi, h, hq, hR => by
    rcases hR.first with ⟨_, h1⟩ | ⟨x, s, rfl, h1, h2⟩
    · exact hg i q y (by omega) hq (full_upto h0 hr hs hg i 1 q y (by omega) (by omega) hq (Rn.one h1))
    · have hx := hr q (by omega) (by omega) x h1
      obtain ⟨z, rfl⟩ : ∃ z : Nat, x = (z : Int) := ⟨x.toNat, by omega⟩
      exact hs i q z y (by omega) hq (by omega) (full_upto h0 hr hs hg i 1 q z (by omega) (by omega) hq (Rn.one h1)) (full_upto h0 hr hs hg i s z y (by omega) (by omega) (by omega) h2)
section
variable {row : Int → List Int} {n : Nat} (hr : ∀ x, 0 ≤ x → x < (n : Int) → ∀ y ∈ row x, 0 ≤ y ∧ y < (n : Int)) (hne : ∀ x, 0 ≤ x → x < (n : Int) → row x ≠ [])
include hr hne
theorem cl_full {l : List Int} (hl : Good n l) (hb : ∀ q y : Nat, q < n → (bit (at_ l q) y = true ↔ (y : Int) ∈ row q)) (q y : Nat) (hq : q < n) : bit (at_ (clN n n l) q) y = true ↔ ∃ r, Rn row q r y := by
  have hT : ∀ a b c : Nat, (∃ r, Rn row a r b) → (∃ r, Rn row b r c) → ∃ r, Rn row a r c := fun a b c ⟨r, h1⟩ ⟨s, h2⟩ => ⟨_, h1.cat h2⟩
  have hS : Snd n (fun a b => ∃ r, Rn row (a : Int) r (b : Int)) l := fun q hq y h => by
    have h1 := (hb q y hq).1 h
    have := hr q (by omega) (by omega) _ h1
    exact ⟨by omega, 1, Rn.one h1⟩
  obtain ⟨a1, a2, a3, B, c1, c2, c3, c4⟩ := clN_ok hT n l hl hS
  constructor
  · intro h
    exact (a2 q hq y h).2
  · rintro ⟨r, h⟩
    obtain ⟨L, e1, e2, e3, e4⟩ := reach_ok (row := row) (n := n) (q := q) hr ⟨by omega, by omega⟩ (hne q (by omega) (by omega)) (n + 1) (by omega)
    obtain ⟨_, s, hs, h2⟩ := e3 _ (e4 r _ h)
    exact (c4 q y).1 (full_upto (D := n) (fun q y hq h => (c1 q y).2 ((hb q y hq).2 h)) hr (fun i q x y hi hq hx h1 h2 => c2 i q x y hi hq hx h1 h2) (fun i q y hi hq h => c3 i q y hi hq h) n s q y (Nat.le_refl _) (by omega) hq h2)
end
theorem Rn.range {row : Int → List Int} {n : Nat} (hr : ∀ x, 0 ≤ x → x < (n : Int) → ∀ y ∈ row x, 0 ≤ y ∧ y < (n : Int)) {q y : Int} {r : Nat} (hq : 0 ≤ q ∧ q < (n : Int)) (h : Rn row q r y) : 0 ≤ y ∧ y < (n : Int) := by
  induction h with
  | one h => exact hr q hq.1 hq.2 _ h
  | more _ h ih => exact hr _ ih.1 ih.2 _ h
theorem fin_iff {row : Int → List Int} {n : Nat} (hr : ∀ x, 0 ≤ x → x < (n : Int) → ∀ y ∈ row x, 0 ≤ y ∧ y < (n : Int)) (h1 : 1 ≤ n) {acc : Int → Bool} {L : Int → List Int} (hL : ∀ z, 0 ≤ z → z < (n : Int) → ∀ y, y ∈ L z ↔ ∃ r, Rn row z r y)
    {B : Nat → Nat → Bool} (hB : ∀ q y : Nat, q < n → (B q y = true ↔ ∃ r, Rn row q r y)) :
    (∃ z ∈ putI 0 (L 0), z ∈ L z ∧ ∃ p ∈ L z, acc p = true) ↔ ∃ q : Nat, q < n ∧ (q = 0 ∨ B 0 q = true) ∧ B q q = true ∧ ∃ p : Nat, p < n ∧ acc p = true ∧ B q p = true := by
  constructor
  · rintro ⟨z, hz, h2, p, hp, h3⟩
    have hzr : (0 ≤ z ∧ z < (n : Int)) ∧ (z = 0 ∨ ∃ r, Rn row 0 r z) := by
      rcases (putI_mem 0 (L 0) z).1 hz with h | rfl
      · have h := (hL 0 (by omega) (by omega) z).1 h
        obtain ⟨r, h⟩ := h
        exact ⟨h.range hr ⟨by omega, by omega⟩, Or.inr ⟨r, h⟩⟩
      · exact ⟨⟨by omega, by omega⟩, Or.inl rfl⟩
    obtain ⟨⟨z0, z1⟩, hz2⟩ := hzr
    have h2 := (hL z z0 z1 z).1 h2
    have hp := (hL z z0 z1 p).1 hp
    have hpr : 0 ≤ p ∧ p < (n : Int) := by
      obtain ⟨r, hp⟩ := hp
      exact hp.range hr ⟨z0, z1⟩
    obtain ⟨q, rfl⟩ : ∃ q : Nat, z = (q : Int) := ⟨z.toNat, by omega⟩
    obtain ⟨p, rfl⟩ : ∃ k : Nat, p = (k : Int) := ⟨p.toNat, by omega⟩
    refine ⟨q, by omega, ?_, (hB q q (by omega)).2 h2, p, by omega, h3, (hB q p (by omega)).2 hp⟩
    rcases hz2 with h | h
    · exact Or.inl (by omega)
    · exact Or.inr ((hB 0 q (by omega)).2 h)
  · rintro ⟨q, hq, h2, h3, p, hp, h4, h5⟩
    refine ⟨(q : Int), (putI_mem 0 (L 0) q).2 ?_, (hL q (by omega) (by omega) q).2 ((hB q q hq).1 h3), p, (hL q (by omega) (by omega) p).2 ((hB q p hq).1 h5), h4⟩
    rcases h2 with rfl | h
    · exact Or.inr rfl
    · exact Or.inl ((hL 0 (by omega) (by omega) q).2 ((hB 0 q (by omega)).1 h))
end Go.Proofs.Ytpgdhpnmagmooaa.Rc
end
section
namespace Go.Proofs.Ytpgdhpnmagmooaa
open Go.RowKit Go.Shelf Go.Proofs.Ytpgdhpnmagmooaa.P Go.Proofs.Ytpgdhpnmagmooaa.Pl Go.Proofs.Ytpgdhpnmagmooaa.Rc Go.Proofs.Ytpgdhpnmagmooaa.Wk Go.Proofs.YtpgdhpnmagmooaaW.PrintWords Go.Proofs.YtpgdhpnmagmooaaW.PrintLast Go.Proofs.YtpgdhpnmagmooaaW.PrintMore
set_option linter.unusedVariables false
set_option linter.unusedSimpArgs false
theorem Sl.nn {w0 w : World} {ps qs : List Pc} (H : Sl w0 w ps) (e : ps = qs := by simp only [List.cons_append, List.nil_append, List.set_cons_zero, List.set_cons_succ]; rfl) : Sl w0 w qs := e ▸ H
theorem Sl.newTwo {w0 w w1 : World} {ps : List Pc} {v : Value} {L : List Int} {ok : Nat → Prop} (H : Sl w0 w ps) (hb : Below w.heap.size w w1) (ho : Kd.R (Kd.int .i64) 3 w1 w.heap.size ok v L) : Sl w0 w1 (ps ++ [two v L v L]) := by
  refine H.call ⟨hb, v.ownBlock.toList ++ [], ⟨v.ownBlock.toList, [], rfl, Or.inl ⟨rfl, rfl, rfl, tight ho⟩, rfl⟩, ?_, fun k hk => ?_⟩
  · cases v.ownBlock <;> simp
  · rw [List.append_nil] at hk
    exact Kd.R_base ho k (by simpa using hk)
theorem put_some {l : List Int} (q : Int) (hl : l.length ≤ 100000) : ∃ k, spec_l6Put.f k l q = some (putI q l) := (put_ev l q hl).rounds
theorem puts_snoc (ys acc : List Int) (y : Int) : puts (ys ++ [y]) acc = putI y (puts ys acc) := by
  unfold puts
  rw [List.foldl_append]
  rfl
theorem puts_take {l : List Int} {i : Nat} (hi : i < l.length) (acc : List Int) : puts (l.take (i + 1)) acc = putI (rd l (i : Int)) (puts (l.take i) acc) := by
  rw [List.take_succ_eq_append_getElem hi, puts_snoc, rd_get l i hi]
theorem mores_snoc {row : Int → List Int} (L : List Int) : ∀ (t : List Int) (x : Int) (acc : List Int), mores row L (t ++ [x]) acc = puts (row x) (mores row L t acc)
  | [], x, acc => rfl
  | y :: t, x, acc => mores_snoc L t x (puts (row y) acc)
theorem row_range {acc : List Bool} {nxt : List (List Int)} (hv : validD acc nxt = true) (x : Int) (h0 : 0 ≤ x) (h1 : x < (acc.length : Int)) : ∀ y ∈ rd_L1 nxt x, 0 ≤ y ∧ y < (acc.length : Int) := fun y hy => by
  obtain ⟨i, hi, rfl⟩ := List.getElem_of_mem hy
  have hl := (next_range hv x h0 h1 0 (by omega) (by omega)).1
  have := next_range hv x h0 h1 (i : Int) (by omega) (by omega)
  rw [rd_get _ i hi] at this
  exact this.2
def T13 : Bool × List (List Nat × List Nat) := (true, [([], []), ([], []), ([1], [1]), ([], []), ([], []), ([3, 4], [3, 4]), ([5], [5]), ([2, 6], [2, 6]), ([7], [7]), ([], []), ([8, 9], [8, 9]), ([10], [10]), ([0, 11], [0, 11]), ([12, 12, 0, 1, 2, 3, 4, 5, 6, 7, 8, 9, 10, 11, 12], [0, 12])])
def B13 : List Nat := [0, 0, 2, 0, 0, 24, 56, 126, 254, 0, 1022, 2046, 4095, 8191]
theorem tab13 : rtab .any (opsOf Try.f26 13) = T13 := by kernel_rfl
theorem bits13 : waitsOk T13.2 B13 = true := by kernel_rfl
set_option maxHeartbeats 40000000 in
set_option maxRecDepth 100000 in
theorem reachCalls (acc : List Bool) (nxt : List (List Int)) (hv : validD acc nxt = true) (hn : nxt.length = acc.length) (hn4 : acc.length ≤ 40) (q : Int) (h0 : 0 ≤ q) (h1 : q < (acc.length : Int)) (A0 : Option Addr) (c0 : Nat) (A1 : Option Addr) (c1 : Nat) (w : World)
    (hr1 : Kd.C (Kd.slice 3 (Kd.int .i64)) w A1 nxt.length nxt) (hc1 : nxt.length ≤ c1) (r : List Int) (h : itR (rd_L1 nxt) 41 (puts (rd_L1 nxt q) []) = some r) :
    Calls Try.prog 26 #[.agg #[.slice A0 acc.length c0, .slice A1 nxt.length c1], .int .i64 q] w fun e w' => ∃ v, e = .returned v ∧ Kd.R (Kd.int .i64) 3 w' w.heap.size (fun _ => True) v r ∧ Below w.heap.size w w' := by
  have H := Sl.start w
  have HV := am_ (And.intro hv (And.intro hn hn4))
  have HQ := am_ (And.intro h0 h1)
  have HR1 := am_ hr1
  have HIT := am_ h
  have hu := Try.underlying28
  clear hv hn hn4 h0 h1 hr1 hc1 h
  go_enter Try.func26, Try.ntmps26
  go_wp2_with (first | ((with_reducible refine gate_dst (N := 2) rfl ?_); refine nw_ H 2 #[.slice A0 acc.length c0, .slice A1 nxt.length c1] 28 rfl ?_; clear H; intro g2 w1 H; replace H := H.nn) |
    ((with_reducible refine gate_dst (N := 10) rfl ?_); refine Kd.R_lit (Kd.int .i64) _ 3 ?hg (N := 10) ?hd (xs := ([] : List Int)) (inner := []) (ok := fun _ => True) (okp := fun _ => True) ?hr ?hp (fun _ hk => hk) trivial (Below.refl _ _) (Nat.le_refl _) (by simp) ?_; (case hd => rfl); (case hg => rfl); (case hr => first | (go_simp; done) | (go_simp; rfl)); (case hp => exact (Reps.none _ _)); intro vz w2 ho hb hg_ hnew_; clear hg_ hnew_; replace H := (H.newTwo hb ho).nn; clear hb ho))
  go_loopg [5, 6] 3 (fun gg v5 v6 w' => ∃ (i : Nat), v6 = .int .i64 (i : Int) ∧ Aside0 (i ≤ 3 ∧ 3 ≤ gg + i) ∧ Sl w w' [bx g2 #[.slice A0 acc.length c0, .slice A1 nxt.length c1] 28, two vz [] v5 (puts ((rd_L1 nxt q).take i) [])])
  case atStart => exact ⟨0, rfl, ⟨by omega, by omega⟩, H⟩
  case round =>
    clear H
    obtain ⟨i, rfl, HI, H⟩ := hrel
    by_cases hi : i < 3
    · obtain ⟨g1_, rfl⟩ : ∃ q, gk = q + 1 := ⟨gk - 1, by have := HI.out; omega⟩
      obtain ⟨hl3, hx0, hx1⟩ := next_range HV.out.1 q HQ.out.1 HQ.out.2 (i : Int) (by omega) (by omega)
      obtain ⟨ad, A2, c2, rfl, hcell, hcl, hrow⟩ := at_L1 (Kd.C_below HR1.out H.bel) q HQ.out.1 (by have := HQ.out.2; have := HV.out.2.1; omega)
      obtain ⟨adr, rfl, hx⟩ := Kd.at_int hrow (i : Int) (by omega) (by omega)
      rw [Int.toNat_natCast] at hx
      obtain ⟨kk, hkk⟩ := put_some (l := puts ((rd_L1 nxt q).take i) []) (rd (rd_L1 nxt q) (i : Int)) (by have := puts_most ((rd_L1 nxt q).take i) []; rw [List.length_take] at this; simp only [List.length_nil] at this; omega)
      have HK := am_ hkk
      have HT := am_ (puts_take (l := rd_L1 nxt q) (i := i) (by omega) [])
      have F2 : wr.cell? ⟨g2, 1, none⟩ = some (.slice (some ad) nxt.length c1) := (blk_cell (H.blk 0 rfl) 1).trans rfl
      have p1 : ((0 : Int) ≤ q) = True := eq_true HQ.out.1
      have p2 : (q < (nxt.length : Int)) = True := eq_true (by have := HQ.out.2; have := HV.out.2.1; omega)
      have p3 : ((0 : Int) ≤ (i : Int)) = True := eq_true (by omega)
      have p4 : ((i : Int) < ((rd_L1 nxt q).length : Int)) = True := eq_true (by omega)
      have p5 : ((i : Int) < 3) = True := eq_true (by omega)
      have HL3 := am_ (And.intro hl3 (And.intro hx0 hx1))
      have HC2 := am_ hrow
      have HI2 := am_ hi
      clear hkk hl3 hx0 hx1 hcl hrow hi
      go_wp2_with ((with_reducible refine gate_dst (N := 24) rfl ?_); refine gL_ (some 24) Try.func25 #[u5, .int .i64 (rd (rd_L1 nxt q) (i : Int))] ?_; refine (putTwo H 1 rfl HK.out).mono ?_; rintro e w3 ⟨x, rfl, H2⟩; clear H F2 hcell hx; have H := H2.nn; clear H2; refine ⟨_, rfl, ?_⟩)
      go_roundg g1_
      case measure => omega
      case rel =>
        rw [← HT.out] at H
        exact ⟨i + 1, by first | rfl | (rw [up1 (by have := HI2.out; omega)]), ⟨by have := HI2.out; omega, by have := HI.out; omega⟩, H⟩
    · have e : i = 3 := by have := HI.out; omega
      subst e
      have hl3 := (next_range HV.out.1 q HQ.out.1 HQ.out.2 0 (by omega) (by omega)).1
      rw [List.take_of_length_le (by omega)] at H
      replace H := (H.snd 1).nn
      have HL0 : Aside0 (Asc (puts (rd_L1 nxt q) []) ∧ ∀ y ∈ puts (rd_L1 nxt q) [], 0 ≤ y ∧ y < (acc.length : Int)) := ⟨puts_asc _ _ List.Pairwise.nil, fun y hy => by
        rcases (puts_mem _ _ y).1 hy with h | h
        · cases h
        · exact row_range HV.out.1 q HQ.out.1 HQ.out.2 y h⟩
      generalize puts (rd_L1 nxt q) [] = L0 at H HIT HL0
      clear hl3 hi
      go_wp2
      go_loopg [5] 41 (fun gg v5 w' => ∃ (L : List Int), Aside0 (itR (rd_L1 nxt) gg L = some r) ∧ Aside0 (Asc L ∧ ∀ y ∈ L, 0 ≤ y ∧ y < (acc.length : Int)) ∧ Sl w w' [bx g2 #[.slice A0 acc.length c0, .slice A1 nxt.length c1] 28, two v5 L v5 L])
      case atStart => exact ⟨L0, HIT, HL0, H⟩
      case round =>
        clear H HIT HL0
        obtain ⟨L, HIT, HL, H⟩ := hrel
        obtain ⟨g1_, rfl⟩ : ∃ q, gk = q + 1 := ⟨gk - 1, by
          cases gk with
          | zero => exact absurd HIT.out (by simp [itR])
          | succ g => rfl⟩
        obtain ⟨Ao, co, eo⟩ := Kd.R_slice (H.two1 1).1
        subst eo
        have HLL := am_ (show L.length ≤ 40 from by have := asc_len L 0 acc.length HL.out.1 (by omega) HL.out.2; have := HV.out.2.2; omega)
        go_wp2
        go_loopg [7, 8] L.length (fun gg v7 v8 w' => ∃ (i : Nat), v8 = .int .i64 (i : Int) ∧ Aside0 (i ≤ L.length ∧ L.length ≤ gg + i) ∧ Sl w w' [bx g2 #[.slice A0 acc.length c0, .slice A1 nxt.length c1] 28, two (.slice Ao L.length co) L v7 (mores (rd_L1 nxt) L (L.take i) L)])
        case atStart => exact ⟨0, rfl, ⟨by omega, by omega⟩, H⟩
        case round =>
          clear H
          obtain ⟨i, rfl, HI, H⟩ := hrel
          by_cases hi : i < L.length
          · obtain ⟨g2_, rfl⟩ : ∃ q, gk = q + 1 := ⟨gk - 1, by have := HI.out; omega⟩
            obtain ⟨x, hx⟩ : ∃ x, x = rd L (i : Int) := ⟨_, rfl⟩
            have hxm : x ∈ L := by rw [hx, rd_get L i hi]; exact List.getElem_mem _
            have hxr := HL.out.2 x hxm
            have HX := am_ (And.intro hx (And.intro hi hxr))
            obtain ⟨M, hM⟩ : ∃ M, M = mores (rd_L1 nxt) L (L.take i) L := ⟨_, rfl⟩
            have hM1 := mores_all (row := rd_L1 nxt) L (L.take i) L HL.out.1
            rw [← hM] at hM1 H
            have HMM : Aside0 (M = mores (rd_L1 nxt) L (L.take i) L ∧ Asc M ∧ M.length ≤ 40) := ⟨hM, hM1.1, by
              have := asc_len M 0 acc.length hM1.1 (by omega) (fun y hy => by
                rcases (hM1.2.1 y).1 hy with h | ⟨u, hu', h⟩
                · exact HL.out.2 y h
                · have := HL.out.2 u (List.mem_of_mem_take hu')
                  exact row_range HV.out.1 u this.1 this.2 y h)
              have := HV.out.2.2
              omega⟩
            have p1 : ((i : Int) < (L.length : Int)) = True := eq_true (by omega)
            clear hx hxm hxr hM hM1 hi
            go_wp2
            go_loopg [7, 9] 3 (fun gg v7 v9 w' => ∃ (k : Nat), v9 = .int .i64 (k : Int) ∧ Aside0 (k ≤ 3 ∧ 3 ≤ gg + k) ∧ Sl w w' [bx g2 #[.slice A0 acc.length c0, .slice A1 nxt.length c1] 28, two (.slice Ao L.length co) L v7 (puts ((rd_L1 nxt x).take k) M)])
            case atStart => exact ⟨0, rfl, ⟨by omega, by omega⟩, H⟩
            case round =>
              clear H p1
              obtain ⟨k, rfl, HK3, H⟩ := hrel
              by_cases hk : k < 3
              · obtain ⟨g3_, rfl⟩ : ∃ q, gk = q + 1 := ⟨gk - 1, by have := HK3.out; omega⟩
                obtain ⟨hl3, hy0, hy1⟩ := next_range HV.out.1 x HX.out.2.2.1 HX.out.2.2.2 (k : Int) (by omega) (by omega)
                obtain ⟨ad, A2, c2, rfl, hcell, hcl, hrow⟩ := at_L1 (Kd.C_below HR1.out H.bel) x HX.out.2.2.1 (by have := HX.out.2.2.2; have := HV.out.2.1; omega)
                obtain ⟨adr, rfl, hxx⟩ := Kd.at_int hrow (k : Int) (by omega) (by omega)
                obtain ⟨adl, rfl, hli⟩ := Kd.at_int (Kd.R_reads' (H.two1 1).1).2.2 (i : Int) (by omega) (by have := HX.out.2.1; omega)
                rw [Int.toNat_natCast] at hxx hli
                rw [← HX.out.1] at hli
                obtain ⟨kk, hkk⟩ := put_some (l := puts ((rd_L1 nxt x).take k) M) (rd (rd_L1 nxt x) (k : Int)) (by have := puts_most ((rd_L1 nxt x).take k) M; rw [List.length_take] at this; have := HMM.out.2.2; omega)
                have HK := am_ hkk
                have HT := am_ (puts_take (l := rd_L1 nxt x) (i := k) (by omega) M)
                have F2 : wr.cell? ⟨g2, 1, none⟩ = some (.slice (some ad) nxt.length c1) := (blk_cell (H.blk 0 rfl) 1).trans rfl
                have p1 : ((0 : Int) ≤ x) = True := eq_true HX.out.2.2.1
                have p2 : (x < (nxt.length : Int)) = True := eq_true (by have := HX.out.2.2.2; have := HV.out.2.1; omega)
                have p3 : ((0 : Int) ≤ (k : Int)) = True := eq_true (by omega)
                have p4 : ((k : Int) < ((rd_L1 nxt x).length : Int)) = True := eq_true (by omega)
                have p5 : ((k : Int) < 3) = True := eq_true (by omega)
                have p6 : ((0 : Int) ≤ (i : Int)) = True := eq_true (by omega)
                have p7 : ((i : Int) < (L.length : Int)) = True := eq_true (by have := HX.out.2.1; omega)
                have HK4 := am_ hk
                clear hkk hl3 hy0 hy1 hcl hrow hk
                go_wp2
                refine start_ (n := 14) (S := (fun w' => w'.cell? ⟨g2, 1, none⟩ = some (.slice (some ad) nxt.length c1) ∧ w'.cell? (adl.add i) = some (.int .i64 x) ∧ w'.cell? (ad.add x.toNat) = some (.slice (some adr) (rd_L1 nxt x).length c2) ∧ w'.cell? (adr.add k) = some (.int .i64 (rd (rd_L1 nxt x) (k : Int))))) (ds := [12]) (bl 14 0) (by kernel_rfl) rfl rfl (⟨F2, hli, hcell, hxx⟩) (fun hHeld => ?_); refine with_tabW tab13 bits13 (fun HT_ HW_ => ?_)
                replace H := H.drew
                clear F2 hli hcell hxx
                refine ph_ 0 36 (bl 14 1) HT_ ?_
                refine ph_ 1 37 (bl 14 3) HT_ ?_
                refine ph_ 3 39 (bl 14 11) HT_ ?_
                refine ph_ 4 40 (bl 14 27) HT_ ?_
                refine ph_ 5 41 (bl 14 59) HT_ ?_
                refine ph_ 9 45 (bl 14 571) HT_ ?_
                refine th_ 2 38 (bl 14 575) HT_ HW_ hHeld ?_
                refine th_ 6 42 (bl 14 639) HT_ HW_ hHeld ?_
                refine ph_ 7 43 (bl 14 767) HT_ ?_
                refine th_ 8 44 (bl 14 1023) HT_ HW_ hHeld ?_
                refine ph_ 10 46 (bl 14 2047) HT_ ?_
                refine th_ 11 47 (bl 14 4095) HT_ HW_ hHeld ?_
                refine last_ (i := 12) (N := some 48) (bl 14 8191) rfl rfl (one_of HT_.out (by kernel_rfl)) (by decide) (fun K hK => ?_)
                refine gO_ Try.func25 #[u7, .int .i64 (rd (rd_L1 nxt x) (k : Int))] ((putTwo H 1 rfl HK.out).mono ?_)
                rintro e w3 ⟨z, rfl, H2⟩
                replace H := H2.nn
                clear H2
                refine ⟨_, rfl, ?_⟩
                refine hK.out _ _ ?_
                clear hK K
                refine nm_ 48 ?_
                refine ph_ 13 7 (bl 14 16383) HT_ ?_
                refine done_ (done_of HT_.out (by kernel_rfl)) ?_
                clear HT_ HW_ hHeld
                go_wp2
                go_roundg g3_
                case measure => omega
                case rel =>
                  rw [← HT.out] at H
                  exact ⟨k + 1, by first | rfl | (rw [up1 (by have := HK4.out; omega)]), ⟨by have := HK4.out; omega, by have := HK3.out; omega⟩, H⟩
              · have e : k = 3 := by have := HK3.out; omega
                subst e
                have hl3 := (next_range HV.out.1 x HX.out.2.2.1 HX.out.2.2.2 0 (by omega) (by omega)).1
                rw [List.take_of_length_le (by omega)] at H
                have HE : Aside0 (puts (rd_L1 nxt x) M = mores (rd_L1 nxt) L (L.take (i + 1)) L) := ⟨by
                  have hi := HX.out.2.1
                  rw [List.take_succ_eq_append_getElem hi, mores_snoc, HMM.out.1, HX.out.1, rd_get L i hi]⟩
                rw [HE.out] at H
                clear hl3 hk
                go_wp2
                go_roundg g2_
                case measure => omega
                case rel => exact ⟨i + 1, by first | rfl | (rw [up1 (by have := HX.out.2.1; have := HLL.out; omega)]), ⟨by have := HX.out.2.1; omega, by have := HI.out; omega⟩, H⟩
          · have e : i = L.length := by have := HI.out; omega
            subst e
            rw [List.take_of_length_le (Nat.le_refl _)] at H
            obtain ⟨M, hM⟩ : ∃ M, M = moreOf (rd_L1 nxt) L := ⟨_, rfl⟩
            have hM0 : mores (rd_L1 nxt) L L L = M := hM.symm
            rw [hM0] at H
            obtain ⟨Am, cm, em⟩ := Kd.R_slice (H.two1 1).2
            subst em
            have p1 : ((L.length : Int) < (L.length : Int)) = False := eq_false (by omega)
            have HM := am_ hM
            by_cases he : M.length = L.length
            · have q1 : (((M.length : Nat) : Int) == (L.length : Int)) = true := by simp [he]
              have hr : r = L := by
                have := HIT.out
                rw [itR, if_pos (by rw [← hM]; exact he)] at this
                exact (Option.some.inj this).symm
              clear hM hM0 hi he
              go_wp2
              go_ret
              rw [hr]
              exact ⟨_, rfl, Kd.R_mono (raise_R (H.two1 1).1 (fun k hk => (H.two1 1).1.1 k hk)) (fun _ _ => trivial), H.bel⟩
            · have q1 : (((M.length : Nat) : Int) == (L.length : Int)) = false := by simp; omega
              have q2 : (((M.length : Nat) : Int) = (L.length : Int)) = False := eq_false (by omega)
              have hit2 : itR (rd_L1 nxt) g1_ M = some r := by
                have := HIT.out
                rw [itR, if_neg (by rw [← hM]; exact he)] at this
                rw [hM]; exact this
              have HIT2 := am_ hit2
              have HL2 : Aside0 (Asc M ∧ ∀ y ∈ M, 0 ≤ y ∧ y < (acc.length : Int)) := ⟨by
                have hm := mores_all (row := rd_L1 nxt) L L L HL.out.1
                rw [hM]
                refine ⟨hm.1, fun y hy => ?_⟩
                rcases (hm.2.1 y).1 hy with h | ⟨u, hu', h⟩
                · exact HL.out.2 y h
                · have := HL.out.2 u hu'
                  exact row_range HV.out.1 u this.1 this.2 y h⟩
              replace H := (H.snd 1).nn
              clear hM hM0 hi he hit2
              go_wp2
              go_roundg g1_
              case measure => omega
              case rel => exact ⟨M, HIT2, HL2, H⟩
end Go.Proofs.Ytpgdhpnmagmooaa
end
section
namespace Go.Proofs.Ytpgdhpnmagmooaa.P
open Go.RowKit Go.Proofs.YtpgdhpnmagmooaaW.PrintWords Go.Proofs.YtpgdhpnmagmooaaW.PrintLast Go.Proofs.YtpgdhpnmagmooaaW.PrintMore
attribute [local go_sem] max2_int min2_int max_two min_two max_three min_three max_four min_four
set_option linter.unusedVariables false
set_option linter.unusedSimpArgs false
def spec_l7Reach.f (l0_0 : List Bool) (l0_1 : List (List Int)) (a1 : Int) : Option (List Int) := if Wk.validD l0_0 l0_1 = true ∧ l0_1.length = l0_0.length ∧ l0_0.length ≤ 40 ∧ 0 ≤ a1 ∧ a1 < (l0_0.length : Int) then Rc.itR (rd_L1 l0_1) 41 (Rc.puts (rd_L1 l0_1 a1) []) else none
theorem spec_l7Reach.calls (A0_0 : Option Addr) (c0_0 : Nat) (l0_0 : List Bool) (A0_1 : Option Addr) (c0_1 : Nat) (l0_1 : List (List Int)) (a1 : Int) (r : List Int) (w : World) (hr0_0 : Kd.C Kd.bool w A0_0 l0_0.length l0_0) (hc0_0 : l0_0.length ≤ c0_0) (hr0_1 : Kd.C (Kd.slice 3 (Kd.int .i64)) w A0_1 l0_1.length l0_1) (hc0_1 : l0_1.length ≤ c0_1) (h : spec_l7Reach.f l0_0 l0_1 a1 = some r) :
    Calls Try.prog 26 #[.agg #[.slice A0_0 l0_0.length c0_0, .slice A0_1 l0_1.length c0_1], .int .i64 a1] w fun e w' => ∃ v0_ : Value, e = .returned v0_ ∧ Kd.R (Kd.int .i64) 3 w' w.heap.size (fun _ => True) v0_ r ∧ Below w.heap.size w w' := by
  unfold spec_l7Reach.f at h
  split at h
  · rename_i hp
    exact reachCalls l0_0 l0_1 hp.1 hp.2.1 hp.2.2.1 a1 hp.2.2.2.1 hp.2.2.2.2 A0_0 c0_0 A0_1 c0_1 w hr0_1 hc0_1 r h
  · cases h
end Go.Proofs.Ytpgdhpnmagmooaa.P
end
section
namespace Go.Proofs.Ytpgdhpnmagmooaa.P
open Go.RowKit Go.Proofs.YtpgdhpnmagmooaaW.PrintWords Go.Proofs.YtpgdhpnmagmooaaW.PrintLast Go.Proofs.YtpgdhpnmagmooaaW.PrintMore
attribute [local go_sem] max2_int min2_int max_two min_two max_three min_three max_four min_four
set_option linter.unusedVariables false
set_option linter.unusedSimpArgs false
def spec_l5Find.l0 : Nat → List Int → Int → Int → Option (Int)
  | 0, _, _, _ => none
  | k + 1, x0, x1, x5 => if x5 < (x0.length : Int) then (if 0 ≤ x5 then (if (rd x0 x5) = x1 then (some x5) else (spec_l5Find.l0 k x0 x1 (wrap64 (x5 + 1)))) else (none)) else (some (-1))
def spec_l5Find.f (k : Nat) (l0 : List Int) (a1 : Int) : Option (Int) := spec_l5Find.l0 k l0 a1 0
theorem spec_l5Find.mono_l : ∀ k, (∀ y0 y1 y2, LeO (spec_l5Find.l0 k y0 y1 y2) (spec_l5Find.l0 (k + 1) y0 y1 y2))
  | 0 => fun _ _ _ r h => by simp [spec_l5Find.l0] at h
  | k + 1 => by
    have ih0 := spec_l5Find.mono_l k
    · intro y0 y1 y2
      unfold spec_l5Find.l0
      repeat' first
      | (with_reducible exact ih0 _ _ _)
      | (with_reducible exact LeO.refl _)
      | (with_reducible exact LeO.none _)
      | (with_reducible refine LeO.ite ?_ ?_)
      | (with_reducible refine LeO.bind ?_ (fun _ => ?_))
      | exact ih0 _ _ _
      | exact LeO.none _
      | refine LeO.ite ?_ ?_
      | refine LeO.bind ?_ (fun _ => ?_)
theorem spec_l5Find.mono : ∀ a0 a1 k, LeO (spec_l5Find.f k a0 a1) (spec_l5Find.f (k + 1) a0 a1) := by
  intro a0 a1 k
  have ih0 := spec_l5Find.mono_l k
  unfold spec_l5Find.f
  repeat' first
      | (with_reducible exact ih0 _ _ _)
      | (with_reducible exact LeO.refl _)
      | (with_reducible exact LeO.none _)
      | (with_reducible refine LeO.ite ?_ ?_)
      | (with_reducible refine LeO.bind ?_ (fun _ => ?_))
      | exact ih0 _ _ _
      | exact LeO.none _
      | refine LeO.ite ?_ ?_
      | refine LeO.bind ?_ (fun _ => ?_)
set_option maxHeartbeats 8000000 in
set_option maxRecDepth 100000 in
theorem spec_l5Find.calls (k : Nat) (A0 : Option Addr) (c0 : Nat) (l0 : List Int) (a1 : Int) (r : Int) (w : World) (hr0 : Kd.C (Kd.int .i64) w A0 l0.length l0) (hc0 : l0.length ≤ c0) (h : spec_l5Find.f k l0 a1 = some r) :
    Calls Try.prog 27 #[.slice A0 l0.length c0, .int .i64 a1] w fun e w' => e = .returned (.int .i64 r) ∧ Drawn0 w w' := by
  have HR0 := am_ hr0
  have HC0 := am_ hc0
  clear hr0 hc0
  have H : (spec_l5Find.l0 k l0 a1 0) = some r := h
  clear h
  have H' := am_ H
  clear H
  go_enter Try.func27, Try.ntmps27
  go_wp2
  go_loopg [5] k (fun kq v5 w' => ∃ (aa : Int), v5 = .int .i64 aa ∧ Aside0 (spec_l5Find.l0 kq l0 a1 aa = some r) ∧ Aside0 (kq ≤ k) ∧ Drawn0 w w')
  case atStart => exact ⟨(0), (by first | rfl | (simp; done) | (simp [*]; done)), H', ⟨Nat.le_refl _⟩, by repeat (first | exact Drawn0.refl _ | apply Drawn0.step)⟩
  case round =>
    clear H'
    try clear c2
    try clear p2
    obtain ⟨aa, rfl, HA, HK1, ⟨m1, rfl⟩⟩ := hrel
    cases gk with
    | zero => exact absurd HA.out (by simp [spec_l5Find.l0])
    | succ k1 =>
      have H := HA.out
      clear HA
      simp only [spec_l5Find.l0] at H
      by_cases c3 : aa < (l0.length : Int)
      · rw [if_pos c3] at H
        have c3b0 : decide (aa < (l0.length : Int)) = true := decide_eq_true c3
        clear c3
        by_cases c4 : 0 ≤ aa
        · rw [if_pos c4] at H
          have c4b0 : decide (0 ≤ aa) = true := decide_eq_true c4
          clear c4
          by_cases c5 : (rd l0 aa) = a1
          · rw [if_pos c5] at H
            have c5b0 : ((rd l0 aa) == a1) = true := beq_iff_eq.mpr c5
            have c5b1 : ((rd l0 aa) != a1) = false := bne_eq_false_iff_eq.mpr c5
            clear c5
            obtain rfl := Option.some.inj H
            simp only [Option.some.injEq, Prod.mk.injEq] at H
            obtain ⟨rfl⟩ := H
            have p160 : 0 ≤ (aa : Int) := of_decide_eq_true ah_
            have q160 : aa < (l0.length : Int) := of_decide_eq_true ah_
            obtain ⟨am, e160, ak⟩ := Kd.at_int HR0.out aa p160 q160
            cases e160
            replace p160 := eq_true p160
            replace q160 := eq_true q160
            go_wp2
            go_ret
            exact ⟨by first | rfl | (simp; done) | (simp [*]; done), by repeat (first | exact Drawn0.refl _ | apply Drawn0.step)⟩
          · rw [if_neg c5] at H
            have c5b0 : ((rd l0 aa) == a1) = false := beq_eq_false_iff_ne.mpr c5
            have c5b1 : ((rd l0 aa) != a1) = true := bne_iff_ne.mpr c5
            have H' := am_ H
            clear H
            have p160 : 0 ≤ (aa : Int) := of_decide_eq_true ah_
            have q160 : aa < (l0.length : Int) := of_decide_eq_true ah_
            obtain ⟨am, e160, ak⟩ := Kd.at_int HR0.out aa p160 q160
            cases e160
            replace p160 := eq_true p160
            replace q160 := eq_true q160
            go_wp2
            go_roundg k1
            case measure => have := HK1.out; omega
            case rel => exact ⟨(wrap64 (aa + 1)), (by first | rfl | (simp; done) | (simp [*]; done)), H', ⟨by have := HK1.out; omega⟩, by repeat (first | exact Drawn0.refl _ | apply Drawn0.step)⟩
        · rw [if_neg c4] at H
          exact absurd H (by simp)
      · rw [if_neg c3] at H
        have c3b0 : decide (aa < (l0.length : Int)) = false := decide_eq_false c3
        clear c3
        obtain rfl := Option.some.inj H
        simp only [Option.some.injEq, Prod.mk.injEq] at H
        obtain ⟨rfl⟩ := H
        go_wp2
        go_ret
        exact ⟨by first | rfl | (simp; done) | (simp [*]; done), by repeat (first | exact Drawn0.refl _ | apply Drawn0.step)⟩
def spec_l6Any.l0 : Nat → List Int → Int → List Bool → List (List Int) → Option (Bool)
  | 0, _, _, _, _ => none
  | k + 1, x1, x5, ah, al => if x5 < (x1.length : Int) then (if 0 ≤ x5 then (if 0 ≤ (rd x1 x5) then (if (rd x1 x5) < (ah.length : Int) then (if rdOf false ah (rd x1 x5) = true then (some true) else (spec_l6Any.l0 k x1 (wrap64 (x5 + 1)) ah al)) else (none)) else (none)) else (none)) else (some false)
def spec_l6Any.f (k : Nat) (l0_0 : List Bool) (l0_1 : List (List Int)) (l1 : List Int) : Option (Bool) := spec_l6Any.l0 k l1 0 l0_0 l0_1
theorem spec_l6Any.mono_l : ∀ k, (∀ y0 y1 y2 y3, LeO (spec_l6Any.l0 k y0 y1 y2 y3) (spec_l6Any.l0 (k + 1) y0 y1 y2 y3))
  | 0 => fun _ _ _ _ r h => by simp [spec_l6Any.l0] at h
  | k + 1 => by
    have ih0 := spec_l6Any.mono_l k
    · intro y0 y1 y2 y3
      unfold spec_l6Any.l0
      repeat' first
      | (with_reducible exact ih0 _ _ _ _)
      | (with_reducible exact LeO.refl _)
      | (with_reducible exact LeO.none _)
      | (with_reducible refine LeO.ite ?_ ?_)
      | (with_reducible refine LeO.bind ?_ (fun _ => ?_))
      | exact ih0 _ _ _ _
      | exact LeO.none _
      | refine LeO.ite ?_ ?_
      | refine LeO.bind ?_ (fun _ => ?_)
theorem spec_l6Any.mono : ∀ a0 a1 a2 k, LeO (spec_l6Any.f k a0 a1 a2) (spec_l6Any.f (k + 1) a0 a1 a2) := by
  intro a0 a1 a2 k
  have ih0 := spec_l6Any.mono_l k
  unfold spec_l6Any.f
  repeat' first
      | (with_reducible exact ih0 _ _ _ _)
      | (with_reducible exact LeO.refl _)
      | (with_reducible exact LeO.none _)
      | (with_reducible refine LeO.ite ?_ ?_)
      | (with_reducible refine LeO.bind ?_ (fun _ => ?_))
      | exact ih0 _ _ _ _
      | exact LeO.none _
      | refine LeO.ite ?_ ?_
      | refine LeO.bind ?_ (fun _ => ?_)
theorem zp5_0_ {p q g1 : Prop} (h : p) (h1 : g1) (c : p → g1 → q := by intro h_ h1_; repeat (first | (with_reducible first | exact h_ | apply below_alloc | apply pw_below_drewN | apply below_drew1 | refine below_set ?_ h1_) | exact h_)) : q := c h h1
set_option maxHeartbeats 8000000 in
set_option maxRecDepth 100000 in
theorem spec_l6Any.calls (k : Nat) (A0_0 : Option Addr) (c0_0 : Nat) (l0_0 : List Bool) (A0_1 : Option Addr) (c0_1 : Nat) (l0_1 : List (List Int)) (A1 : Option Addr) (c1 : Nat) (l1 : List Int) (r : Bool) (w : World) (hr0_0 : Kd.C Kd.bool w A0_0 l0_0.length l0_0) (hc0_0 : l0_0.length ≤ c0_0) (hr0_1 : Kd.C (Kd.slice 3 (Kd.int .i64)) w A0_1 l0_1.length l0_1) (hc0_1 : l0_1.length ≤ c0_1) (hr1 : Kd.C (Kd.int .i64) w A1 l1.length l1) (hc1 : l1.length ≤ c1) (h : spec_l6Any.f k l0_0 l0_1 l1 = some r) :
    Calls Try.prog 28 #[.agg #[.slice A0_0 l0_0.length c0_0, .slice A0_1 l0_1.length c0_1], .slice A1 l1.length c1] w fun e w' => e = .returned (.bool r) ∧ Below w.heap.size w w' := by
  have hu28 := Try.underlying28
  have ai := am_ hr0_0
  have az := am_ hc0_0
  clear hr0_0 hc0_0
  have aA := am_ hr0_1
  have aB := am_ hc0_1
  clear hr0_1 hc0_1
  have HR1 := am_ hr1
  have HC1 := am_ hc1
  clear hr1 hc1
  have HB := am_ (Below.refl w.heap.size w)
  have H : (spec_l6Any.l0 k l1 0 l0_0 l0_1) = some r := h
  clear h
  have H' := am_ H
  clear H
  go_enter Try.func28, Try.ntmps28
  go_wp2_with (first | ((with_reducible refine gate_dst (N := 2) rfl ?_); refine box_event ?hg (N := 2) ?hd (cs := #[.slice A0_0 l0_0.length c0_0, .slice A0_1 l0_1.length c0_1]) (t := 28) ?hr ?_; (case hd => rfl); (case hg => rfl); (case hr => first | (go_simp; done) | (go_simp; rfl)); intro af hg w3 hbox hb; replace ab := am_ (hbox); replace aj := am_ ((by rw [hg]; exact (below_size (b0_ HB.out)) : w.heap.size ≤ af)); replace ag := am_ ((by rw [hg]; exact (below_size (b0_ HB.out)) : w.heap.size ≤ af)); replace HB := am_ (below_step (b0_ HB.out) hb); clear hb hbox hg))
  repeat (go_quiet (first | ((with_reducible refine gate_dst (N := 2) rfl ?_); refine box_event ?hg (N := 2) ?hd (cs := #[.slice A0_0 l0_0.length c0_0, .slice A0_1 l0_1.length c0_1]) (t := 28) ?hr ?_; (case hd => rfl); (case hg => rfl); (case hr => first | (go_simp; done) | (go_simp; rfl)); intro af hg w3 hbox hb; replace ab := am_ (hbox); replace aj := am_ ((by rw [hg]; exact (below_size (b0_ HB.out)) : w.heap.size ≤ af)); replace ag := am_ ((by rw [hg]; exact (below_size (b0_ HB.out)) : w.heap.size ≤ af)); replace HB := am_ (below_step (b0_ HB.out) hb); clear hb hbox hg)); try go_wp2_with (first | ((with_reducible refine gate_dst (N := 2) rfl ?_); refine box_event ?hg (N := 2) ?hd (cs := #[.slice A0_0 l0_0.length c0_0, .slice A0_1 l0_1.length c0_1]) (t := 28) ?hr ?_; (case hd => rfl); (case hg => rfl); (case hr => first | (go_simp; done) | (go_simp; rfl)); intro af hg w3 hbox hb; replace ab := am_ (hbox); replace aj := am_ ((by rw [hg]; exact (below_size (b0_ HB.out)) : w.heap.size ≤ af)); replace ag := am_ ((by rw [hg]; exact (below_size (b0_ HB.out)) : w.heap.size ≤ af)); replace HB := am_ (below_step (b0_ HB.out) hb); clear hb hbox hg)))
  go_loopg [5] k (fun kq v5 w' => ∃ (aa : Int), v5 = .int .i64 aa ∧ Aside0 (spec_l6Any.l0 kq l1 aa l0_0 l0_1 = some r) ∧ Aside0 (kq ≤ k) ∧ Aside0 (w'.heap[af]? = some (.cells #[(.slice A0_0 l0_0.length c0_0), (.slice A0_1 l0_1.length c0_1)] 28 (0, 0))) ∧ Aside0 (Below w.heap.size w w'))
  case atStart => exact ⟨(0), (by first | rfl | (simp; done) | (simp [*]; done)), H', ⟨Nat.le_refl _⟩, ⟨by refine rb_ ?_; exact ab.out⟩, ⟨by exact zp5_0_ HB.out ag.out⟩⟩
  case round =>
    clear H'
    try clear c1
    try clear c2
    try clear p2
    obtain ⟨aa, rfl, HA, HK1, ab, HB⟩ := hrel
    cases gk with
    | zero => exact absurd HA.out (by simp [spec_l6Any.l0])
    | succ k1 =>
      have H := HA.out
      clear HA
      simp only [spec_l6Any.l0] at H
      by_cases c4 : aa < (l1.length : Int)
      · rw [if_pos c4] at H
        have c4b0 : decide (aa < (l1.length : Int)) = true := decide_eq_true c4
        clear c4
        by_cases c5 : 0 ≤ aa
        · rw [if_pos c5] at H
          have c5b0 : decide (0 ≤ aa) = true := decide_eq_true c5
          clear c5
          by_cases c6 : 0 ≤ (rd l1 aa)
          · rw [if_pos c6] at H
            have c6b0 : decide (0 ≤ (rd l1 aa)) = true := decide_eq_true c6
            clear c6
            by_cases c7 : (rd l1 aa) < (l0_0.length : Int)
            · rw [if_pos c7] at H
              have c7b0 : decide ((rd l1 aa) < (l0_0.length : Int)) = true := decide_eq_true c7
              clear c7
              obtain ⟨bq8, hbq8⟩ : ∃ b_ : Bool, b_ = (rdOf false l0_0 (rd l1 aa)) := ⟨_, rfl⟩
              replace H : (if bq8 = true then (some true) else (spec_l6Any.l0 k1 l1 (wrap64 (aa + 1)) l0_0 l0_1)) = some r := by rw [← hbq8] at H; exact H
              have Nbq8 := am_ hbq8
              clear hbq8
              by_cases c9 : bq8 = true
              · subst c9
                have H1 : (some true) = some r := by rw [if_pos rfl] at H; exact H
                clear H
                have H := H1
                clear H1
                obtain rfl := Option.some.inj H
                simp only [Option.some.injEq, Prod.mk.injEq] at H
                obtain ⟨rfl⟩ := H
                have ap := ck_ (v := (.slice A0_0 l0_0.length c0_0)) ab 0 rfl
                have aq := ck_ (v := (.slice A0_1 l0_1.length c0_1)) ab 1 rfl
                have ar := blk_frozen ab.out 0
                have au := blk_frozen ab.out 1
                have p162 : 0 ≤ (aa : Int) := of_decide_eq_true ah_
                have q162 : aa < (l1.length : Int) := of_decide_eq_true ah_
                obtain ⟨an, e162, ae⟩ := Kd.at_int HR1.out aa p162 q162
                cases e162
                replace ae := (HB.out.cell (World.block_lt_of_cell? w _ ae)).trans ae
                replace p162 := eq_true p162
                replace q162 := eq_true q162
                have p163 : 0 ≤ ((rd l1 aa) : Int) := of_decide_eq_true ah_
                have q163 : (rd l1 aa) < (l0_0.length : Int) := of_decide_eq_true ah_
                obtain ⟨ao, e163, ad⟩ := Kd.at_bool ai.out (rd l1 aa) p163 q163
                (try rw [← Nbq8.out] at ad)
                cases e163
                replace ad := (HB.out.cell (World.block_lt_of_cell? w _ ad)).trans ad
                replace p163 := eq_true p163
                replace q163 := eq_true q163
                go_wp2
                repeat (go_quiet (fail); try go_wp2)
                go_ret
                exact ⟨by first | rfl | (simp [errW_none, errW_some] <;> rfl) | (simp [*, errW_none, errW_some] <;> rfl), by exact zp5_0_ HB.out ag.out⟩
              · replace c9 := Bool.eq_false_iff.mpr c9
                subst c9
                have H1 : (spec_l6Any.l0 k1 l1 (wrap64 (aa + 1)) l0_0 l0_1) = some r := by rw [if_neg (show ¬ (false = true) by decide)] at H; exact H
                clear H
                have H := H1
                clear H1
                have H' := am_ H
                clear H
                have av := ck_ (v := (.slice A0_0 l0_0.length c0_0)) ab 0 rfl
                have aw := ck_ (v := (.slice A0_1 l0_1.length c0_1)) ab 1 rfl
                have ax := blk_frozen ab.out 0
                have ay := blk_frozen ab.out 1
                have p162 : 0 ≤ (aa : Int) := of_decide_eq_true ah_
                have q162 : aa < (l1.length : Int) := of_decide_eq_true ah_
                obtain ⟨an, e162, ae⟩ := Kd.at_int HR1.out aa p162 q162
                cases e162
                replace ae := (HB.out.cell (World.block_lt_of_cell? w _ ae)).trans ae
                replace p162 := eq_true p162
                replace q162 := eq_true q162
                have p163 : 0 ≤ ((rd l1 aa) : Int) := of_decide_eq_true ah_
                have q163 : (rd l1 aa) < (l0_0.length : Int) := of_decide_eq_true ah_
                obtain ⟨ao, e163, ad⟩ := Kd.at_bool ai.out (rd l1 aa) p163 q163
                (try rw [← Nbq8.out] at ad)
                cases e163
                replace ad := (HB.out.cell (World.block_lt_of_cell? w _ ad)).trans ad
                replace p163 := eq_true p163
                replace q163 := eq_true q163
                go_wp2
                repeat (go_quiet (fail); try go_wp2)
                go_roundg k1
                case measure => have := HK1.out; omega
                case rel => exact ⟨(wrap64 (aa + 1)), (by first | rfl | (simp; done) | (simp [*]; done)), H', ⟨by have := HK1.out; omega⟩, ⟨by refine rb_ ?_; exact ab.out⟩, ⟨by exact zp5_0_ HB.out ag.out⟩⟩
            · rw [if_neg c7] at H
              exact absurd H (by simp)
          · rw [if_neg c6] at H
            exact absurd H (by simp)
        · rw [if_neg c5] at H
          exact absurd H (by simp)
      · rw [if_neg c4] at H
        have c4b0 : decide (aa < (l1.length : Int)) = false := decide_eq_false c4
        clear c4
        obtain rfl := Option.some.inj H
        simp only [Option.some.injEq, Prod.mk.injEq] at H
        obtain ⟨rfl⟩ := H
        go_wp2
        repeat (go_quiet (fail); try go_wp2)
        go_ret
        exact ⟨by first | rfl | (simp [errW_none, errW_some] <;> rfl) | (simp [*, errW_none, errW_some] <;> rfl), by exact zp5_0_ HB.out ag.out⟩
end Go.Proofs.Ytpgdhpnmagmooaa.P
end
