/- Texts of the proof of FnExactParseRegex, put together. No condition. -/
import Derived.Test.YtldgkgdgcfllmaaQFnExactParseRegex7
import Derived.Test.YtldgkgdgcfllmaaQFnExactParseRegex3
import Derived.Test.YtldgkgdgcfllmaaQFnExactParseRegex2
import Derived.Test.YtldgkgdgcfllmaaQFnExactParseRegex6
section
namespace Go.Proofs.Ytldgkgdgcfllmaa.Rg
open Go.RowKit Go.Proofs.Ytldgkgdgcfllmaa.P Go.Proofs.Ytldgkgdgcfllmaa.Pl Go.Proofs.YtldgkgdgcfllmaaW.PrintWords Go.Proofs.YtldgkgdgcfllmaaW.PrintLast Go.Proofs.YtldgkgdgcfllmaaW.PrintMore
set_option linter.unusedVariables false
set_option linter.unusedSimpArgs false
def sgn : List Int → Int × List Int
  | b :: t => if b = 124 then (6, t) else if b = 38 then (7, t) else (5, b :: t)
  | [] => (5, [])
def op2 (k : Int) (x y : Rx) : Rx := if k = 5 then .cat x y else if k = 6 then .or x y else .and x y
def one1 (b : Int) : ByteArray := ⟨#[UInt8.ofNat b.toNat]⟩
def pN : Nat → List Int → Option (Rx × List Int)
  | 0, _ => none
  | _ + 1, [] => none
  | d + 1, b :: t =>
    if b = 48 then some (.none, t) else if b = 49 then some (.empty, t) else if b = 46 then some (.any, t)
    else if b = 97 ∨ b = 98 ∨ b = 99 then some (.letter (one1 b), t)
    else if b = 42 then (pN d t).map fun x => (.star x.1, x.2)
    else if b = 33 then (pN d t).map fun x => (.not x.1, x.2)
    else if b = 40 then (pN d t).bind fun x => (pN d (sgn x.2).2).bind fun y => match y.2 with
      | c :: r => if c = 41 then some (op2 (sgn x.2).1 x.1 y.1, r) else none
      | [] => none
    else none
theorem sgn_len : ∀ l : List Int, (sgn l).2.length ≤ l.length
  | [] => Nat.le_refl _
  | c :: t => by
    simp only [sgn]
    by_cases h1 : c = 124
    · rw [if_pos h1]; simp
    · rw [if_neg h1]
      by_cases h2 : c = 38
      · rw [if_pos h2]; simp
      · rw [if_neg h2]; simp
theorem pN_len : ∀ (d : Nat) (l : List Int) (x : Rx × List Int), pN d l = some x → x.2.length < l.length
  | 0, _, _, h => by cases h
  | _ + 1, [], _, h => by cases h
  | d + 1, b :: t, x, h => by
    simp only [pN] at h
    have leaf : ∀ y : Rx, some (y, t) = some x → x.2.length < (b :: t).length := fun y e => by
      have e := Option.some.inj e
      rw [← e]
      simp
    have un : ∀ f : Rx → Rx, (pN d t).map (fun z => (f z.1, z.2)) = some x → x.2.length < (b :: t).length := fun f e => by
      obtain ⟨y, h1, h2⟩ := Option.map_eq_some_iff.1 e
      have := pN_len d t y h1
      rw [← h2]
      simp only [List.length_cons]
      omega
    by_cases h1 : b = 48
    · rw [if_pos h1] at h; exact leaf _ h
    rw [if_neg h1] at h
    by_cases h1 : b = 49
    · rw [if_pos h1] at h; exact leaf _ h
    rw [if_neg h1] at h
    by_cases h1 : b = 46
    · rw [if_pos h1] at h; exact leaf _ h
    rw [if_neg h1] at h
    by_cases h1 : b = 97 ∨ b = 98 ∨ b = 99
    · rw [if_pos h1] at h; exact leaf _ h
    rw [if_neg h1] at h
    by_cases h1 : b = 42
    · rw [if_pos h1] at h; exact un _ h
    rw [if_neg h1] at h
    by_cases h1 : b = 33
    · rw [if_pos h1] at h; exact un _ h
    rw [if_neg h1] at h
    by_cases h1 : b = 40
    · rw [if_pos h1] at h
      obtain ⟨y, h1, h2⟩ := Option.bind_eq_some_iff.1 h
      obtain ⟨z, h3, h4⟩ := Option.bind_eq_some_iff.1 h2
      have a1 := pN_len d t y h1
      have a2 := pN_len d _ z h3
      have a3 := sgn_len y.2
      cases hm : z.2 with
      | nil => rw [hm] at h4; cases h4
      | cons c m =>
        rw [hm] at h4 a2
        by_cases h5 : c = 41
        · simp only [if_pos h5] at h4
          have e := Option.some.inj h4
          rw [← e]
          simp only [List.length_cons] at a2 ⊢
          omega
        · simp only [if_neg h5] at h4
          cases h4
    · rw [if_neg h1] at h; cases h
end Go.Proofs.Ytldgkgdgcfllmaa.Rg
end
section
namespace Go.Proofs.Ytldgkgdgcfllmaa.P
open Go.RowKit Go.Proofs.YtldgkgdgcfllmaaW.PrintWords Go.Proofs.YtldgkgdgcfllmaaW.PrintLast Go.Proofs.YtldgkgdgcfllmaaW.PrintMore
attribute [local go_sem] max2_int min2_int max_two min_two max_three min_three max_four min_four
set_option linter.unusedVariables false
set_option linter.unusedSimpArgs false
def IsS57 (w0 W : World) (g : Nat) (f0 : ByteArray) (f1 : Int) (f2 : Bool) : Prop := W.heap[g]? = some (.cells #[.string f0, .int .i64 f1, .bool f2] 57 (0, 0)) ∧ w0.heap.size ≤ g
theorem IsS57.grown {w0 W : World} {g : Nat} {f0 : ByteArray} {f1 : Int} {f2 : Bool} {W1 : World} {row : Option Nat} (h : IsS57 w0 W g f0 f1 f2) (hw : W.grownBy W1 row) (hne : some g ≠ row) : IsS57 w0 W1 g f0 f1 f2 := by
  obtain ⟨hb, hg⟩ := h
  exact ⟨blk_grown hb hw hne, hg⟩
theorem IsS57.kept {w0 W : World} {g : Nat} {f0 : ByteArray} {f1 : Int} {f2 : Bool} {W1 : World} {S : Nat → Prop} (h : IsS57 w0 W g f0 f1 f2) (hk : Kept W W1 S) (hne : ¬ S g) : IsS57 w0 W1 g f0 f1 f2 := by
  obtain ⟨hb, hg⟩ := h
  exact ⟨blk_kept hb hk hne, hg⟩
theorem IsS57.below {w0 W : World} {g : Nat} {f0 : ByteArray} {f1 : Int} {f2 : Bool} {W1 : World} (h : IsS57 w0 W g f0 f1 f2) (hw : Below W.heap.size W W1) : IsS57 w0 W1 g f0 f1 f2 := h.grown (grown_of_below hw none) (by simp)
theorem IsS57.alloc {w0 W : World} {g : Nat} {f0 : ByteArray} {f1 : Int} {f2 : Bool} (h : IsS57 w0 W g f0 f1 f2) (o : Obj) : IsS57 w0 (W.alloc o) g f0 f1 f2 := h.below (below_alloc (Below.refl _ _) o)
theorem IsS57.drewN {w0 W : World} {g : Nat} {f0 : ByteArray} {f1 : Int} {f2 : Bool} (h : IsS57 w0 W g f0 f1 f2) (m : Nat) : IsS57 w0 (W.drewN m) g f0 f1 f2 := h
theorem IsS57.drew {w0 W : World} {g : Nat} {f0 : ByteArray} {f1 : Int} {f2 : Bool} (h : IsS57 w0 W g f0 f1 f2) : IsS57 w0 W.drew g f0 f1 f2 := h
theorem IsS57.at_ {w0 W : World} {g : Nat} {f0 : ByteArray} {f1 : Int} {f2 : Bool} {w' : World} {m : Nat} (hq : W.drewN m = w') (h : IsS57 w0 W g f0 f1 f2) : IsS57 w0 w' g f0 f1 f2 := by subst hq; exact IsS57.drewN h m
theorem IsS57.apart {w0 W : World} {g : Nat} {f0 : ByteArray} {f1 : Int} {f2 : Bool} {α : Type} {d : Kd α} {e : Nat} {base : Nat} {ok : Nat → Prop} {v : Value} {xs : List α} (h : IsS57 w0 W g f0 f1 f2) (ho : d.R e W base ok v xs) (ht : ∀ q, q ∈ e :: d.E → q ≠ 57) : d.R e W base (fun k => ok k ∧ k ≠ g) v xs := by
  obtain ⟨hb, hg⟩ := h
  exact Kd.R_types ho hb ht
theorem IsS57.own_ne {w0 W : World} {g : Nat} {f0 : ByteArray} {f1 : Int} {f2 : Bool} {α : Type} {d : Kd α} {e : Nat} {base : Nat} {ok : Nat → Prop} {v : Value} {xs : List α} (h : IsS57 w0 W g f0 f1 f2) (ho : d.R e W base ok v xs) (ht : e ≠ 57) : some g ≠ v.ownBlock := by
  obtain ⟨hb, hg⟩ := h
  exact Kd.R_ne ho hb ht
theorem IsS57.lt {w0 W : World} {g : Nat} {f0 : ByteArray} {f1 : Int} {f2 : Bool} (h : IsS57 w0 W g f0 f1 f2) : g < W.heap.size := by
  obtain ⟨hb, hg⟩ := h
  exact blk_lt hb
theorem IsS57.ge {w0 W : World} {g : Nat} {f0 : ByteArray} {f1 : Int} {f2 : Bool} (h : IsS57 w0 W g f0 f1 f2) : w0.heap.size ≤ g := by
  obtain ⟨hb, hg⟩ := h
  exact hg
theorem cellS57_0 {W : World} {g : Nat} {f0 : ByteArray} {f1 : Int} {f2 : Bool} (h : W.heap[g]? = some (.cells #[.string f0, .int .i64 f1, .bool f2] 57 (0, 0))) : W.cell? ⟨g, 0, none⟩ = some (.string f0) := (blk_cell h 0).trans rfl
theorem IsS57.set_0 {w0 W : World} {g : Nat} {f0 : ByteArray} {f1 : Int} {f2 : Bool} (h : IsS57 w0 W g f0 f1 f2) (x : ByteArray) : IsS57 w0 (W.setCell ⟨g, 0, none⟩ (.string x)) g x f1 f2 := by
  obtain ⟨hb, hg⟩ := h
  exact ⟨by simpa using blk_set hb 0 (.string x), hg⟩
theorem cellS57_1 {W : World} {g : Nat} {f0 : ByteArray} {f1 : Int} {f2 : Bool} (h : W.heap[g]? = some (.cells #[.string f0, .int .i64 f1, .bool f2] 57 (0, 0))) : W.cell? ⟨g, 1, none⟩ = some (.int .i64 f1) := (blk_cell h 1).trans rfl
theorem IsS57.set_1 {w0 W : World} {g : Nat} {f0 : ByteArray} {f1 : Int} {f2 : Bool} (h : IsS57 w0 W g f0 f1 f2) (x : Int) : IsS57 w0 (W.setCell ⟨g, 1, none⟩ (.int .i64 x)) g f0 x f2 := by
  obtain ⟨hb, hg⟩ := h
  exact ⟨by simpa using blk_set hb 1 (.int .i64 x), hg⟩
theorem cellS57_2 {W : World} {g : Nat} {f0 : ByteArray} {f1 : Int} {f2 : Bool} (h : W.heap[g]? = some (.cells #[.string f0, .int .i64 f1, .bool f2] 57 (0, 0))) : W.cell? ⟨g, 2, none⟩ = some (.bool f2) := (blk_cell h 2).trans rfl
theorem IsS57.set_2 {w0 W : World} {g : Nat} {f0 : ByteArray} {f1 : Int} {f2 : Bool} (h : IsS57 w0 W g f0 f1 f2) (x : Bool) : IsS57 w0 (W.setCell ⟨g, 2, none⟩ (.bool x)) g f0 f1 x := by
  obtain ⟨hb, hg⟩ := h
  exact ⟨by simpa using blk_set hb 2 (.bool x), hg⟩
theorem IsS57.new (w0 W : World) (f0 : ByteArray) (f1 : Int) (f2 : Bool) (hB : Below w0.heap.size w0 W) : IsS57 w0 (W.alloc (.cells #[.string f0, .int .i64 f1, .bool f2] 57)) W.heap.size f0 f1 f2 := ⟨by simpa using heap_alloc_new W _, hB.size⟩
def spec_l3Take.f (s0_0 : ByteArray) (s0_1 : Int) (s0_2 : Bool) (a1 : ByteArray) : Option (Bool × ByteArray × Int × Bool) := if s0_2 = true then (some (false, s0_0, s0_1, s0_2)) else (if (wrap64 (s0_1 + (a1.size : Int))) > (s0_0.size : Int) then (some (false, s0_0, s0_1, s0_2)) else (if 0 ≤ s0_1 then (if s0_1 ≤ (wrap64 (s0_1 + (a1.size : Int))) then (if (wrap64 (s0_1 + (a1.size : Int))) ≤ (s0_0.size : Int) then (if (s0_0.extract (s0_1 : Int).toNat ((wrap64 (s0_1 + (a1.size : Int))) : Int).toNat).toList = a1.toList then (some (true, s0_0, wrap64 (s0_1 + (a1.size : Int)), s0_2)) else (some (false, s0_0, s0_1, s0_2))) else (none)) else (none)) else (none)))
theorem zp21_0_ {p q : Prop} (h : p) (c : p → q := by intro h_; repeat (first | (with_reducible first | exact h_ | apply IsS57.alloc | apply IsS57.drewN | apply IsS57.drew | apply IsS57.set_0 | apply IsS57.set_1 | apply IsS57.set_2) | exact h_)) : q := c h
theorem zp21_1_ {p q g1 : Prop} (h : p) (h1 : g1) (c : p → g1 → q := by intro h_ h1_; repeat (first | (with_reducible first | exact h_ | apply below_alloc | apply pw_below_drewN | apply below_drew1 | refine below_set ?_ h1_) | exact h_)) : q := c h h1
theorem zp21_2_ {p q : Prop} (h : p) (c : p → q := by intro h_; repeat (first | (with_reducible first | exact h_ | apply KeepBut.set_ | apply keep_drewN | apply keep_drew | apply keep_alloc) | exact h_)) : q := c h
set_option maxHeartbeats 8000000 in
set_option maxRecDepth 100000 in
theorem spec_l3Take.calls (g : Nat) (s0_0 : ByteArray) (s0_1 : Int) (s0_2 : Bool) (a1 : ByteArray) (r1 : Bool) (r2 : ByteArray) (r3 : Int) (r4 : Bool) (w0 w : World) (hI : IsS57 w0 w g s0_0 s0_1 s0_2) (hB : Below w0.heap.size w0 w) (h : spec_l3Take.f s0_0 s0_1 s0_2 a1 = some (r1, r2, r3, r4)) :
    Calls Try.prog 71 #[.pointer (some ⟨g, 0, none⟩), .string a1] w fun e w' => e = .returned (.bool r1) ∧ IsS57 w0 w' g r2 r3 r4 ∧ Below w0.heap.size w0 w' ∧ KeepBut w w' g none := by
  have HI0 := am_ hI
  have HK := am_ (KeepBut.refl w g none)
  have HL := am_ hB.size
  clear hI
  have HW0 := am_ hB.size
  have HB := am_ hB
  clear hB
  have H : (if s0_2 = true then (some (false, s0_0, s0_1, s0_2)) else (if (wrap64 (s0_1 + (a1.size : Int))) > (s0_0.size : Int) then (some (false, s0_0, s0_1, s0_2)) else (if 0 ≤ s0_1 then (if s0_1 ≤ (wrap64 (s0_1 + (a1.size : Int))) then (if (wrap64 (s0_1 + (a1.size : Int))) ≤ (s0_0.size : Int) then (if (s0_0.extract (s0_1 : Int).toNat ((wrap64 (s0_1 + (a1.size : Int))) : Int).toNat).toList = a1.toList then (some (true, s0_0, wrap64 (s0_1 + (a1.size : Int)), s0_2)) else (some (false, s0_0, s0_1, s0_2))) else (none)) else (none)) else (none)))) = some (r1, r2, r3, r4) := h
  clear h
  by_cases c3 : s0_2 = true
  · subst c3
    have H1 : (some (false, s0_0, s0_1, true)) = some (r1, r2, r3, r4) := by rw [if_pos rfl] at H; exact H
    clear H
    have H := H1
    clear H1
    simp only [Option.some.injEq, Prod.mk.injEq] at H
    obtain ⟨rfl, rfl, rfl, rfl⟩ := H
    obtain ⟨HGz4, hgz4⟩ := HI0.out
    have an := cellS57_0 HGz4
    have ao := cellS57_1 HGz4
    have ap := cellS57_2 HGz4
    have aq := blk_frozen HGz4 0
    have ar := blk_frozen HGz4 1
    have au := blk_frozen HGz4 2
    clear HGz4 hgz4
    go_enter Try.func71, Try.ntmps71
    go_wp2
    repeat (go_quiet (fail); try go_wp2)
    go_ret
    exact ⟨by first | rfl | (simp [errW_none, errW_some] <;> rfl) | (simp [*, errW_none, errW_some] <;> rfl), by exact zp21_0_ HI0.out, by exact zp21_1_ HB.out (IsS57.ge HI0.out), by exact zp21_2_ HK.out⟩
  · replace c3 := Bool.eq_false_iff.mpr c3
    subst c3
    have H1 : (if (wrap64 (s0_1 + (a1.size : Int))) > (s0_0.size : Int) then (some (false, s0_0, s0_1, false)) else (if 0 ≤ s0_1 then (if s0_1 ≤ (wrap64 (s0_1 + (a1.size : Int))) then (if (wrap64 (s0_1 + (a1.size : Int))) ≤ (s0_0.size : Int) then (if (s0_0.extract (s0_1 : Int).toNat ((wrap64 (s0_1 + (a1.size : Int))) : Int).toNat).toList = a1.toList then (some (true, s0_0, wrap64 (s0_1 + (a1.size : Int)), false)) else (some (false, s0_0, s0_1, false))) else (none)) else (none)) else (none))) = some (r1, r2, r3, r4) := by rw [if_neg (show ¬ (false = true) by decide)] at H; exact H
    clear H
    have H := H1
    clear H1
    by_cases c5 : (wrap64 (s0_1 + (a1.size : Int))) > (s0_0.size : Int)
    · rw [if_pos c5] at H
      have c5b0 : decide ((s0_0.size : Int) < (wrap64 (s0_1 + (a1.size : Int)))) = true := decide_eq_true c5
      clear c5
      simp only [Option.some.injEq, Prod.mk.injEq] at H
      obtain ⟨rfl, rfl, rfl, rfl⟩ := H
      obtain ⟨HGz6, hgz6⟩ := HI0.out
      have av := cellS57_0 HGz6
      have aw := cellS57_1 HGz6
      have ax := cellS57_2 HGz6
      have ay := blk_frozen HGz6 0
      have az := blk_frozen HGz6 1
      have aA := blk_frozen HGz6 2
      clear HGz6 hgz6
      go_enter Try.func71, Try.ntmps71
      go_wp2
      repeat (go_quiet (fail); try go_wp2)
      go_ret
      exact ⟨by first | rfl | (simp [errW_none, errW_some] <;> rfl) | (simp [*, errW_none, errW_some] <;> rfl), by exact zp21_0_ HI0.out, by exact zp21_1_ HB.out (IsS57.ge HI0.out), by exact zp21_2_ HK.out⟩
    · rw [if_neg c5] at H
      have c5b0 : decide ((s0_0.size : Int) < (wrap64 (s0_1 + (a1.size : Int)))) = false := decide_eq_false c5
      clear c5
      by_cases c7 : 0 ≤ s0_1
      · rw [if_pos c7] at H
        have c7b0 := eq_true c7
        have c7b1 : decide (0 ≤ s0_1) = true := decide_eq_true c7
        clear c7
        by_cases c8 : s0_1 ≤ (wrap64 (s0_1 + (a1.size : Int)))
        · rw [if_pos c8] at H
          have c8b0 := eq_true c8
          have c8b1 : decide (s0_1 ≤ (wrap64 (s0_1 + (a1.size : Int)))) = true := decide_eq_true c8
          by_cases c9 : (wrap64 (s0_1 + (a1.size : Int))) ≤ (s0_0.size : Int)
          · rw [if_pos c9] at H
            have c9b0 := eq_true c9
            have c9b1 : decide ((wrap64 (s0_1 + (a1.size : Int))) ≤ (s0_0.size : Int)) = true := decide_eq_true c9
            by_cases c10 : (s0_0.extract (s0_1 : Int).toNat ((wrap64 (s0_1 + (a1.size : Int))) : Int).toNat).toList = a1.toList
            · rw [if_pos c10] at H
              have c10b0 : ((s0_0.extract (s0_1 : Int).toNat ((wrap64 (s0_1 + (a1.size : Int))) : Int).toNat).toList == a1.toList) = true := beq_iff_eq.mpr c10
              have c10b1 : ((s0_0.extract (s0_1 : Int).toNat ((wrap64 (s0_1 + (a1.size : Int))) : Int).toNat).toList != a1.toList) = false := bne_eq_false_iff_eq.mpr c10
              clear c10
              simp only [Option.some.injEq, Prod.mk.injEq] at H
              obtain ⟨rfl, rfl, rfl, rfl⟩ := H
              obtain ⟨HGz11, hgz11⟩ := HI0.out
              have aa := cellS57_0 HGz11
              have ab := cellS57_1 HGz11
              have ad := cellS57_2 HGz11
              have ae := blk_frozen HGz11 0
              have af := blk_frozen HGz11 1
              have ag := blk_frozen HGz11 2
              clear HGz11 hgz11
              go_enter Try.func71, Try.ntmps71
              go_wp2
              repeat (go_quiet (fail); try go_wp2)
              go_ret
              exact ⟨by first | rfl | (simp [errW_none, errW_some] <;> rfl) | (simp [*, errW_none, errW_some] <;> rfl), by exact zp21_0_ HI0.out, by exact zp21_1_ HB.out (IsS57.ge HI0.out), by exact zp21_2_ HK.out⟩
            · rw [if_neg c10] at H
              have c10b0 : ((s0_0.extract (s0_1 : Int).toNat ((wrap64 (s0_1 + (a1.size : Int))) : Int).toNat).toList == a1.toList) = false := beq_eq_false_iff_ne.mpr c10
              have c10b1 : ((s0_0.extract (s0_1 : Int).toNat ((wrap64 (s0_1 + (a1.size : Int))) : Int).toNat).toList != a1.toList) = true := bne_iff_ne.mpr c10
              simp only [Option.some.injEq, Prod.mk.injEq] at H
              obtain ⟨rfl, rfl, rfl, rfl⟩ := H
              obtain ⟨HGz12, hgz12⟩ := HI0.out
              have ah := cellS57_0 HGz12
              have ai := cellS57_1 HGz12
              have aj := cellS57_2 HGz12
              have ak := blk_frozen HGz12 0
              have al := blk_frozen HGz12 1
              have am := blk_frozen HGz12 2
              clear HGz12 hgz12
              go_enter Try.func71, Try.ntmps71
              go_wp2
              repeat (go_quiet (fail); try go_wp2)
              go_ret
              exact ⟨by first | rfl | (simp [errW_none, errW_some] <;> rfl) | (simp [*, errW_none, errW_some] <;> rfl), by exact zp21_0_ HI0.out, by exact zp21_1_ HB.out (IsS57.ge HI0.out), by exact zp21_2_ HK.out⟩
          · rw [if_neg c9] at H
            exact absurd H (by simp)
        · rw [if_neg c8] at H
          exact absurd H (by simp)
      · rw [if_neg c7] at H
        exact absurd H (by simp)
end Go.Proofs.Ytldgkgdgcfllmaa.P
end
section
namespace Go.Proofs.Ytldgkgdgcfllmaa
open Go.RowKit Go.Shelf Go.Proofs.Ytldgkgdgcfllmaa.P Go.Proofs.Ytldgkgdgcfllmaa.Pl Go.Proofs.Ytldgkgdgcfllmaa.Rg Go.Proofs.YtldgkgdgcfllmaaW.PrintWords Go.Proofs.YtldgkgdgcfllmaaW.PrintLast Go.Proofs.YtldgkgdgcfllmaaW.PrintMore
set_option linter.unusedVariables false
set_option linter.unusedSimpArgs false
theorem Sl.nn {w0 w : World} {ps qs : List Pc} (H : Sl w0 w ps) (e : ps = qs := by simp only [List.cons_append, List.nil_append, List.set_cons_zero, List.set_cons_succ]; rfl) : Sl w0 w qs := e ▸ H
def restP (ps : List Pc) : Pc := ⟨fun w fp => SlF w ps fp, fun h hm => SlF.mv h hm, fun h => SlF.lt h⟩
theorem Sl.box {w0 w : World} {ps : List Pc} {p : Pc} (H : Sl w0 w ps) (i : Nat) (hi : ps[i]? = some p) : Sl w0 w [p, restP (ps.set i emp)] := by
  obtain ⟨fp, h1, h2, h3⟩ := H.own
  obtain ⟨f, fr, h4, h5, h6⟩ := SlF.at_ h1 hi
  obtain ⟨gp, g1, g2⟩ := h6 w emp [] (fun _ _ => rfl) rfl
  have hp : (f ++ (gp ++ [])).Perm fp := by
    rw [List.append_nil]
    exact (List.Perm.append_left f (by simpa using g2)).trans h5.symm
  exact ⟨H.bel, f ++ (gp ++ []), ⟨f, gp ++ [], rfl, h4, gp, [], rfl, g1, rfl⟩, (List.Perm.nodup_iff hp).2 h2, fun k hk => h3 k (hp.mem_iff.1 hk)⟩
theorem Sl.unbox {w0 w' : World} {ps qs : List Pc} {q : Pc} {i : Nat} (H : Sl w0 w' (q :: restP (ps.set i emp) :: qs)) (hi : i < ps.length) : Sl w0 w' (ps.set i q ++ qs) := by
  obtain ⟨fp, ⟨f1, f23, e, h1, f2, f3, e2, h2, h3⟩, hn, hg⟩ := H.own
  obtain ⟨f, fr, hf, hperm, hh⟩ := SlF.at_ (i := i) (p := emp) (show SlF w' (ps.set i emp) f2 from h2) (List.getElem?_set_self hi)
  obtain ⟨gp, g1, g2⟩ := hh w' q f1 (fun _ _ => rfl) h1
  rw [List.set_set] at g1
  have hf : f = [] := hf
  rw [hf, List.nil_append] at hperm
  have hp : (gp ++ f3).Perm fp := by
    rw [e, e2, ← List.append_assoc]
    exact List.Perm.append_right f3 (g2.trans (List.Perm.append_left f1 hperm.symm))
  exact ⟨H.bel, gp ++ f3, SlF.app g1 h3, (List.Perm.nodup_iff hp).2 hn, fun k hk => hg k (hp.mem_iff.1 hk)⟩
abbrev rbox (g : Nat) (s : ByteArray) (n : Nat) (b : Bool) : Pc := bx g #[.string s, .int .i64 (n : Int), .bool b] 57
def tk (b : Bool) (l : List Int) (c : Int) : Bool := !b && l.head? == some c
theorem take_gen {s : ByteArray} {n : Nat} (hn : n ≤ s.size) (hs : s.size ≤ 140737488351232) (b : Bool) (c : UInt8) :
    spec_l3Take.f s n b ⟨#[c]⟩ = some (tk b ((bytesOf s).drop n) c.toNat, s, ((if tk b ((bytesOf s).drop n) c.toNat = true then n + 1 else n : Nat) : Int), b) := by
  cases b with
  | true => rfl
  | false =>
  have e1 : wrap64 ((n : Int) + ((⟨#[c]⟩ : ByteArray).size : Int)) = ((n + 1 : Nat) : Int) := by
    rw [show (⟨#[c]⟩ : ByteArray).size = 1 from rfl, w64 (by omega) (by omega)]; omega
  unfold spec_l3Take.f
  rw [e1]
  by_cases hz : n < s.size
  · have hd := drop_cons s n hz
    have ex : bytesOf (s.extract n (n + 1)) = [bt s n] := by
      rw [bytes_extract, take_snoc s n hz, List.drop_append_of_le_length (by rw [List.length_take, len_bytes]; omega), List.drop_eq_nil_of_le (by rw [List.length_take, len_bytes]; omega)]
      rfl
    have hc : bytesOf (⟨#[c]⟩ : ByteArray) = [(c.toNat : Int)] := rfl
    have hiff : ((s.extract n (n + 1)).toList = (⟨#[c]⟩ : ByteArray).toList) ↔ bt s n = (c.toNat : Int) := by
      rw [toList_iff]
      constructor
      · intro e
        rw [e, hc] at ex
        exact (List.cons.inj ex).1.symm
      · intro e
        exact bytes_inj (by rw [ex, hc, e])
    rw [if_neg (by decide), if_neg (by omega), if_pos (by omega), if_pos (by omega), if_pos (by omega)]
    rw [show ((n : Int)).toNat = n by omega, show (((n + 1 : Nat) : Int)).toNat = n + 1 by omega]
    by_cases hq : bt s n = (c.toNat : Int)
    · rw [if_pos (hiff.2 hq), hd]
      simp [tk, hq]
    · rw [if_neg (fun e => hq (hiff.1 e)), hd]
      have : tk false (bt s n :: (bytesOf s).drop (n + 1)) c.toNat = false := by simp [tk, hq]
      rw [this]
      rfl
  · rw [if_neg (by decide), if_pos (by omega), drop_end s n (by omega)]
    rfl
structure TK (s : ByteArray) (b : Bool) (n m : Nat) (c : Int) (v : Bool) : Prop where
  le : m ≤ s.size
  r : v = tk b ((bytesOf s).drop n) c
  m : m = if v = true then n + 1 else n
theorem takeCall {w0 w : World} {ps : List Pc} {g n : Nat} {s : ByteArray} {b : Bool} (H : Sl w0 w ps) (i : Nat) (hi : ps[i]? = some (rbox g s n b)) (hn : n ≤ s.size) (hs : s.size ≤ 140737488351232) (c : UInt8) :
    Calls Try.prog 71 #[.pointer (some ⟨g, 0, none⟩), .string ⟨#[c]⟩] w fun e w' => ∃ r m, e = .returned (.bool r) ∧ Sl w0 w' (ps.set i (rbox g s m b)) ∧ TK s b n m c.toNat r := by
  obtain ⟨f, ⟨hf, hb⟩, -, hg⟩ := H.get i hi
  have hge : w0.heap.size ≤ g := hg g (by rw [hf]; exact List.mem_singleton.2 rfl)
  refine (spec_l3Take.calls g s n b ⟨#[c]⟩ _ _ _ _ w0 w ⟨hb, hge⟩ H.bel (take_gen hn hs b c)).mono ?_
  rintro e w' ⟨rfl, ⟨hb', -⟩, hbel, hk⟩
  refine ⟨_, _, rfl, H.upd i hi hbel (fun f2 hp hn2 _ => ⟨[g], ⟨rfl, hb'⟩, by simp, fun k hk' => Or.inl (by rw [hp.1]; exact hk'), fun k hlt hk' => hk.2 k hlt (fun e => hk' (by rw [hp.1, e]; exact List.mem_singleton.2 rfl)) (by simp)⟩), ⟨?_, rfl, rfl⟩⟩
  split
  · rename_i ht
    simp only [tk, Bool.and_eq_true] at ht
    cases hl : (bytesOf s).drop n with
    | nil => rw [hl] at ht; simp at ht
    | cons x t =>
      have := congrArg List.length hl
      rw [List.length_drop, len_bytes] at this
      simp only [List.length_cons] at this
      omega
  · exact hn
theorem TK.bad {s : ByteArray} {n m : Nat} {c : Int} {r : Bool} (h : TK s true n m c r) : r = false ∧ m = n := by
  have := h.r
  have h2 : r = false := this
  exact ⟨h2, by have := h.m; rw [h2] at this; exact this⟩
theorem TK.yes {s : ByteArray} {b : Bool} {n m : Nat} {c : Int} (h : TK s b n m c true) : b = false ∧ m = n + 1 ∧ ∃ t, (bytesOf s).drop n = c :: t ∧ (bytesOf s).drop m = t := by
  have hr := h.r
  have hm : m = n + 1 := h.m
  simp only [tk] at hr
  cases b with
  | true => cases hr
  | false =>
    cases hl : (bytesOf s).drop n with
    | nil => rw [hl] at hr; simp at hr
    | cons x t =>
      rw [hl] at hr
      have hx : x = c := by simpa using hr
      refine ⟨rfl, hm, t, by rw [hx], ?_⟩
      rw [hm, show n + 1 = n + 1 from rfl, ← List.drop_drop, hl]
      rfl
theorem TK.no {s : ByteArray} {n m : Nat} {b : Bool} {c : Int} (h : TK s b n m c false) : m = n ∧ (b = false → ∀ t, (bytesOf s).drop n ≠ c :: t) := by
  have hr := h.r
  refine ⟨h.m, fun hb t e => ?_⟩
  rw [hb, e] at hr
  simp [tk] at hr
def lf (b : Bool) (l : List Int) : Option (Rx × List Int) := if b = true then none else match l with
  | [] => none
  | c :: t => if c = 48 then some (.none, t) else if c = 49 then some (.empty, t) else if c = 46 then some (.any, t) else if c = 97 ∨ c = 98 ∨ c = 99 then some (.letter (one1 c), t) else none
structure RdR (res : Option (Rx × List Int)) (s : ByteArray) (m : Nat) (b : Bool) (q : Tr) : Prop where
  le : m ≤ s.size
  ok : match res with
    | some x => b = false ∧ q = tr x.1 ∧ (bytesOf s).drop m = x.2
    | none => b = true
end Go.Proofs.Ytldgkgdgcfllmaa
end
section
namespace Go.Proofs.Ytldgkgdgcfllmaa
open Go.RowKit Go.Shelf Go.Proofs.Ytldgkgdgcfllmaa.P Go.Proofs.Ytldgkgdgcfllmaa.Pl Go.Proofs.Ytldgkgdgcfllmaa.Rg Go.Proofs.YtldgkgdgcfllmaaW.PrintWords Go.Proofs.YtldgkgdgcfllmaaW.PrintLast Go.Proofs.YtldgkgdgcfllmaaW.PrintMore
set_option linter.unusedVariables false
set_option linter.unusedSimpArgs false
def PRes (w : World) (s : ByteArray) (res : Option (Rx × List Int)) (e : Ending) (w' : World) : Prop := ∃ v q rest ok, e = .returned (.tuple #[.agg #[.int .i64 q.f0, .string q.f1, v], .string rest, .bool ok]) ∧ Sl w w' [tre v q.f2] ∧ rest.size ≤ s.size ∧ match res with
  | some x => ok = true ∧ q = tr x.1 ∧ bytesOf rest = x.2
  | none => ok = false
abbrev RdAt (d : Nat) : Prop := ∀ (s : ByteArray) (w : World), s.size ≤ 140737488351232 → Calls Try.prog 48 #[.string s, .int .i64 d] w (PRes w s (pN d (bytesOf s)))
theorem emp_list : ByteArray.toList ⟨#[]⟩ = [] := by rw [ByteArray.toList_eq]
theorem isE {s : ByteArray} (h : s.size = 0) : s.toList = [] := by
  have := len_bytes s
  rw [h] at this
  have e : s = ⟨#[]⟩ := bytes_inj (by rw [List.eq_nil_of_length_eq_zero this]; rfl)
  rw [e, emp_list]
theorem isN {s : ByteArray} (h : s.size ≠ 0) : s.toList ≠ [] := fun e => h (by
  have : s = ⟨#[]⟩ := toList_iff.mp (e.trans emp_list.symm)
  rw [this]; rfl)
set_option maxHeartbeats 40000000 in
set_option maxRecDepth 100000 in
theorem rdFail (d : Nat) (s : ByteArray) (w : World) (h : s.size = 0 ∨ d = 0) : Calls Try.prog 48 #[.string s, .int .i64 d] w (PRes w s none) := by
  have H := Sl.start w
  have hu := Try.underlying29
  by_cases hz : s.size = 0
  · have e1 := isE hz
    clear h hz
    go_enter Try.func48, Try.ntmps48
    go_wp2_with (first | ((with_reducible refine gate_dst (N := 4) rfl ?_); refine nw_ H 4 zt 29 rfl ?_; clear H; intro g4 w1 H; replace H := H.nn; have F0 := H.f3 0) | ((with_reducible refine gate_store (p := 4) rfl ?_); refine p3_ H 4 0 rfl ?_; clear H F0; intro w1 H; replace H := H.nn))
    refine bodyPost_ret (results_ctt rfl _ _ g4 29 _ (0, 0) _ rfl (H.blk 0 rfl) hu rfl (by kernel_rfl)) rfl ?_
    exact ⟨_, ⟨0, ⟨#[]⟩, []⟩, _, _, rfl, (sub_nil H).one 1, Nat.zero_le _, rfl⟩
  · have e1 : (s.toList = []) = False := eq_false (isN hz)
    have e1b : s.toList.isEmpty = false := by cases hh : s.toList with
      | nil => exact absurd hh (isN hz)
      | cons _ _ => rfl
    have hd : d = 0 := h.resolve_left hz
    subst hd
    clear h hz
    go_enter Try.func48, Try.ntmps48
    go_wp2_with (first | ((with_reducible refine gate_dst (N := 4) rfl ?_); refine nw_ H 4 zt 29 rfl ?_; clear H; intro g4 w1 H; replace H := H.nn; have F0 := H.f3 0) | ((with_reducible refine gate_store (p := 4) rfl ?_); refine p3_ H 4 0 rfl ?_; clear H F0; intro w1 H; replace H := H.nn))
    refine bodyPost_ret (results_ctt rfl _ _ g4 29 _ (0, 0) _ rfl (H.blk 0 rfl) hu rfl (by kernel_rfl)) rfl ?_
    exact ⟨_, ⟨0, ⟨#[]⟩, []⟩, _, _, rfl, (sub_nil H).one 1, Nat.zero_le _, rfl⟩
def T3 : Bool × List (List Nat × List Nat) := (true, [([], []), ([0], [0]), ([], []), ([2], [2]), ([1, 0, 1], [1]), ([3, 4, 0, 1, 2, 3, 4], [3])])
def B3 : List Nat := [0, 1, 0, 4, 3, 31]
theorem tab3 : rtab .any (opsOf Try.f48 3) = T3 := by kernel_rfl
theorem bits3 : waitsOk T3.2 B3 = true := by kernel_rfl
theorem bytes_cons {s : ByteArray} (h : 0 < s.size) : bytesOf s = (((s[0]'h).toNat : Nat) : Int) :: bytesOf (s.extract 1 s.size) := by
  have := drop_cons s 0 h
  rw [List.drop_zero] at this
  rw [this, bytes_extract]
  congr 1
  · simp [bt, h]
  · rw [show s.size = (bytesOf s).length from (len_bytes s).symm, List.take_length]
theorem one1_bytes {b : Int} (h0 : 0 ≤ b) (h1 : b ≤ 255) : bytesOf (one1 b) = [b] := by
  simp only [one1, bytesOf, List.map_cons, List.map_nil]
  congr 1
  rw [UInt8.toNat_ofNat']
  omega
def T26 : Bool × List (List Nat × List Nat) := (true, [([], []), ([0], [0]), ([], []), ([1, 2, 0, 1, 2], [0, 1])])
def B26 : List Nat := [0, 1, 0, 7]
theorem bits26 : waitsOk T26.2 B26 = true := by kernel_rfl
theorem tab26 : rtab .any (opsOf Try.f48 26) = T26 := by kernel_rfl
theorem tab28 : rtab .any (opsOf Try.f48 28) = T26 := by kernel_rfl
def T32 : Bool × List (List Nat × List Nat) := (true, [([], []), ([], []), ([], []), ([1, 2], [1, 2]), ([0, 3], [0, 3]), ([], []), ([5], [5]), ([4, 0, 1, 2, 3, 4], [4]), ([6, 7, 0, 1, 2, 3, 4, 5, 6, 7], [6]), ([8, 0, 1, 2, 3, 4, 5, 6, 7, 8], [])])
def B32 : List Nat := [0, 0, 0, 6, 15, 0, 32, 31, 255, 511]
theorem bits32 : waitsOk T32.2 B32 = true := by kernel_rfl
theorem tab32 : rtab .any (opsOf Try.f48 32) = T32 := by kernel_rfl
set_option maxHeartbeats 40000000 in
set_option maxRecDepth 100000 in
theorem rdStep (d : Nat) (s : ByteArray) (w : World) (hs : s.size ≤ 140737488351232) (hd2 : d + 1 ≤ 1000) (hz : s.size ≠ 0) (ih : RdAt d) : Calls Try.prog 48 #[.string s, .int .i64 ((d + 1 : Nat) : Int)] w (PRes w s (pN (d + 1) (bytesOf s))) := by
  have H := Sl.start w
  have hu := Try.underlying29
  have e1 : (s.toList = []) = False := eq_false (isN hz)
  have e1b : s.toList.isEmpty = false := by cases hh : s.toList with
    | nil => exact absurd hh (isN hz)
    | cons _ _ => rfl
  have e2 : (((d + 1 : Nat) : Int) == 0) = false := by simp; omega
  have e3 : (0 < s.size) = True := eq_true (by omega)
  have e4 : (1 ≤ s.size) = True := eq_true (by omega)
  have e5 : ((0 : Int) < (s.size : Int)) = True := eq_true (by omega)
  have e6 : ((1 : Int) ≤ (s.size : Int)) = True := eq_true (by omega)
  have hb := bytes_cons (s := s) (of_eq_true e3)
  have hrs : (s.extract 1 s.size).size = s.size - 1 := by rw [ByteArray.size_extract]; omega
  have hx1 : bytesOf (s.extract 0 1) = (bytesOf s).take 1 := by rw [bytes_extract, List.drop_zero]
  have hdd : wrap64 (((d + 1 : Nat) : Int) - 1) = (d : Int) := by rw [w64 (by omega) (by omega)]; omega
  have HS := am_ (And.intro hs (And.intro hz hrs))
  have HB := am_ (And.intro hb hx1)
  have HIH := am_ ih
  obtain ⟨n1, hn1⟩ : ∃ n : Int, n = ((d + 1 : Nat) : Int) := ⟨_, rfl⟩
  rw [← hn1] at e2 hdd ⊢
  obtain ⟨res, hres⟩ : ∃ r, r = pN (d + 1) (bytesOf s) := ⟨_, rfl⟩
  rw [← hres]
  have HR := am_ hres
  clear hs hz hb hrs hx1 ih hn1 hd2 hres
  go_enter Try.func48, Try.ntmps48
  go_wp2_with ((with_reducible refine gate_dst (N := 4) rfl ?_); refine nw_ H 4 zt 29 rfl ?_; clear H; intro g4 w1 H; replace H := H.nn)
  refine start_ (n := 6) (S := (fun w' => True)) (ds := []) #[false, false, false, false, false, false] (by kernel_rfl) rfl rfl (trivial) (fun hHeld => ?_); refine with_tabW tab3 bits3 (fun HT_ HW_ => ?_)
  replace H := H.drew
  refine ph_ 0 25 #[true, false, false, false, false, false] HT_ ?_
  refine ph_ 1 26 #[true, true, false, false, false, false] HT_ ?_
  refine ph_ 2 27 #[true, true, true, false, false, false] HT_ ?_
  refine ph_ 3 28 #[true, true, true, true, false, false] HT_ ?_
  refine ph_ 4 7 #[true, true, true, true, true, false] HT_ ?_
  refine ph_ 5 8 #[true, true, true, true, true, true] HT_ ?_
  refine done_ (done_of HT_.out (by kernel_rfl)) ?_
  clear HT_ HW_ hHeld
  generalize World.drew _ = w2 at H ⊢
  have F0 := H.f3 0
  have hbb := (s[0]'(of_eq_true e3)).toNat_lt
  generalize hbv : ((s[0]'(of_eq_true e3)).toNat : Int) = b at *
  have hb0 : 0 ≤ b ∧ b ≤ 255 := by omega
  generalize hrv : s.extract 1 s.size = rs at *
  by_cases h48 : b = 48
  · subst h48
    have HP : Aside0 (res = some (.none, bytesOf rs)) := ⟨by rw [HR.out, HB.out.1]; simp [pN]⟩
    go_wp2_with ((with_reducible refine gate_store (p := 4) rfl ?_); refine p3_ H 4 0 rfl ?_; clear H F0; intro w1 H; replace H := H.nn)
    refine bodyPost_ret (results_ctt rfl _ _ g4 29 _ (0, 0) _ rfl (H.blk 0 rfl) hu rfl (by kernel_rfl)) rfl ?_
    exact ⟨_, tr .none, _, _, rfl, (sub_nil H).one 1, by have := HS.out; omega, by rw [HP.out]; exact ⟨rfl, rfl, rfl⟩⟩
  by_cases h49 : b = 49
  · subst h49
    have HP : Aside0 (res = some (.empty, bytesOf rs)) := ⟨by rw [HR.out, HB.out.1]; simp [pN]⟩
    go_wp2_with ((with_reducible refine gate_store (p := 4) rfl ?_); refine p3_ H 4 0 rfl ?_; clear H F0; intro w1 H; replace H := H.nn)
    refine bodyPost_ret (results_ctt rfl _ _ g4 29 _ (0, 0) _ rfl (H.blk 0 rfl) hu rfl (by kernel_rfl)) rfl ?_
    exact ⟨_, tr .empty, _, _, rfl, (sub_nil H).one 1, by have := HS.out; omega, by rw [HP.out]; exact ⟨rfl, rfl, rfl⟩⟩
  by_cases h46 : b = 46
  · subst h46
    have HP : Aside0 (res = some (.any, bytesOf rs)) := ⟨by rw [HR.out, HB.out.1]; simp [pN]⟩
    go_wp2_with ((with_reducible refine gate_store (p := 4) rfl ?_); refine p3_ H 4 0 rfl ?_; clear H F0; intro w1 H; replace H := H.nn)
    refine bodyPost_ret (results_ctt rfl _ _ g4 29 _ (0, 0) _ rfl (H.blk 0 rfl) hu rfl (by kernel_rfl)) rfl ?_
    exact ⟨_, tr .any, _, _, rfl, (sub_nil H).one 1, by have := HS.out; omega, by rw [HP.out]; exact ⟨rfl, rfl, rfl⟩⟩
  have HL : Aside0 (impl_LetterIndex.f b = some (letIdx b)) := ⟨impl_letter hb0.1 hb0.2⟩
  by_cases hc : b = 97 ∨ b = 98 ∨ b = 99
  · have HP : Aside0 (res = some (.letter (one1 b), bytesOf rs)) := ⟨by rw [HR.out, HB.out.1]; rcases hc with rfl | rfl | rfl <;> simp [pN]⟩
    have hl : s.extract 0 1 = one1 b := bytes_inj (by rw [HB.out.2, HB.out.1, one1_bytes hb0.1 hb0.2]; rfl)
    have HLL := am_ hl
    clear hl
    rcases hc with rfl | rfl | rfl
    all_goals
      go_wp2_with (first | (go_at_call 73; (with_reducible refine (impl_LetterIndex.calls _ _ _ HL.out).mono ?_); rintro e w2 ⟨rfl, hbl⟩; replace H := H.only hbl.below; clear hbl F0; have F0 := H.f3 0) | ((with_reducible refine gate_store (p := 4) rfl ?_); refine p3_ H 4 0 rfl ?_; clear H F0; intro w1 H; replace H := H.nn))
      refine bodyPost_ret (results_ctt rfl _ _ g4 29 _ (0, 0) _ rfl (H.blk 0 rfl) hu rfl (by kernel_rfl)) rfl ?_
      exact ⟨_, tr (.letter (s.extract 0 1)), _, _, rfl, (sub_nil H).one 1, by have := HS.out; omega, by rw [HP.out]; exact ⟨rfl, by rw [HLL.out], rfl⟩⟩
  have HL2 : Aside0 (impl_LetterIndex.f b = some (-1)) := ⟨by rw [HL.out]; unfold letIdx; rw [if_neg (fun e => hc (.inl e)), if_neg (fun e => hc (.inr (.inl e))), if_neg (fun e => hc (.inr (.inr e)))]⟩
  have HNC := am_ hc
  clear HL hc
  by_cases h42 : b = 42
  · subst h42
    have HP : Aside0 (res = (pN d (bytesOf rs)).map fun x => (.star x.1, x.2)) := ⟨by rw [HR.out, HB.out.1]; simp [pN]⟩
    go_wp2_with (first | (go_at_call 73; (with_reducible refine (impl_LetterIndex.calls _ _ _ HL2.out).mono ?_); rintro e w3 ⟨rfl, hbl⟩; replace H := H.only hbl.below; clear hbl F0; have F0 := H.f3 0) | (((with_reducible refine gate_dst (N := 63) rfl ?_); (first | (refine gL_ (some 63) Try.func48 #[.string rs, .int .i64 (wrap64 (n1 - 1))] ?_; rw [hdd]) | refine gL_ (some 63) Try.func48 #[.string rs, .int .i64 d] ?_); refine (HIH.out rs _ (by have := HS.out; omega)).mono ?_; rintro e w4 ⟨v, q1, r1, ok, rfl, H2, hr, hm⟩; obtain ⟨A1, c1, rfl, -, -⟩ := H2.tv 0; replace H := (H.call H2).nn; have HM1 := am_ (And.intro hr hm); clear H2 hr hm); clear F0; refine ⟨_, rfl, ?_⟩) | ((with_reducible refine gate_dst (N := 9) rfl ?_); refine nw_ H 9 zt 29 rfl ?_; clear H; intro g9 w5 H; replace H := H.nn; have F2 := H.f3 2) | ((with_reducible refine gate_store (p := 9) rfl ?_); refine p3_ H 9 2 rfl ?_; clear H F2; intro w5 H; replace H := H.nn; have F2 := H.f3 2) | ((with_reducible refine gate_dst (N := 71) rfl ?_); refine wl1_ (t := q1) H 71 1 rfl ?_; clear H F2; intro g7 w5 H; replace H := H.nn; have F0 := H.f3 0) | ((with_reducible refine gate_store (p := 4) rfl ?_); refine p3_ H 4 0 rfl ?_; clear H F0; intro w5 H; replace H := H.nn))
    refine bodyPost_ret (results_ctt rfl _ _ g4 29 _ (0, 0) _ rfl (H.blk 0 rfl) hu rfl (by kernel_rfl)) rfl ?_
    refine ⟨_, ⟨8, ⟨#[]⟩, [q1]⟩, _, _, rfl, H.one 1, by have := HS.out; have := HM1.out.1; omega, ?_⟩
    rw [HP.out]
    have hm := HM1.out.2
    cases hp : pN d (bytesOf rs) with
    | none => rw [hp] at hm; exact hm
    | some x => rw [hp] at hm; obtain ⟨h1, h2, h3⟩ := hm; exact ⟨h1, by rw [h2]; rfl, h3⟩
  by_cases h33 : b = 33
  · subst h33
    have HP : Aside0 (res = (pN d (bytesOf rs)).map fun x => (.not x.1, x.2)) := ⟨by rw [HR.out, HB.out.1]; simp [pN]⟩
    go_wp2_with (first | (go_at_call 73; (with_reducible refine (impl_LetterIndex.calls _ _ _ HL2.out).mono ?_); rintro e w3 ⟨rfl, hbl⟩; replace H := H.only hbl.below; clear hbl F0; have F0 := H.f3 0) | (((with_reducible refine gate_dst (N := 63) rfl ?_); (first | (refine gL_ (some 63) Try.func48 #[.string rs, .int .i64 (wrap64 (n1 - 1))] ?_; rw [hdd]) | refine gL_ (some 63) Try.func48 #[.string rs, .int .i64 d] ?_); refine (HIH.out rs _ (by have := HS.out; omega)).mono ?_; rintro e w4 ⟨v, q1, r1, ok, rfl, H2, hr, hm⟩; obtain ⟨A1, c1, rfl, -, -⟩ := H2.tv 0; replace H := (H.call H2).nn; have HM1 := am_ (And.intro hr hm); clear H2 hr hm); clear F0; refine ⟨_, rfl, ?_⟩) | ((with_reducible refine gate_dst (N := 9) rfl ?_); refine nw_ H 9 zt 29 rfl ?_; clear H; intro g9 w5 H; replace H := H.nn; have F2 := H.f3 2) | ((with_reducible refine gate_store (p := 9) rfl ?_); refine p3_ H 9 2 rfl ?_; clear H F2; intro w5 H; replace H := H.nn; have F2 := H.f3 2) | ((with_reducible refine gate_dst (N := 71) rfl ?_); refine wl1_ (t := q1) H 71 1 rfl ?_; clear H F2; intro g7 w5 H; replace H := H.nn; have F0 := H.f3 0) | ((with_reducible refine gate_store (p := 4) rfl ?_); refine p3_ H 4 0 rfl ?_; clear H F0; intro w5 H; replace H := H.nn))
    refine bodyPost_ret (results_ctt rfl _ _ g4 29 _ (0, 0) _ rfl (H.blk 0 rfl) hu rfl (by kernel_rfl)) rfl ?_
    refine ⟨_, ⟨9, ⟨#[]⟩, [q1]⟩, _, _, rfl, H.one 1, by have := HS.out; have := HM1.out.1; omega, ?_⟩
    rw [HP.out]
    have hm := HM1.out.2
    cases hp : pN d (bytesOf rs) with
    | none => rw [hp] at hm; exact hm
    | some x => rw [hp] at hm; obtain ⟨h1, h2, h3⟩ := hm; exact ⟨h1, by rw [h2]; rfl, h3⟩
  by_cases hc40 : b = 40
  rotate_left
  · have HP : Aside0 (res = none) := ⟨by rw [HR.out, HB.out.1]; simp only [pN]; rw [if_neg h48, if_neg h49, if_neg h46, if_neg HNC.out, if_neg h42, if_neg h33, if_neg hc40]⟩
    have f1 : ((b : Int) == 48) = false := by simpa using h48
    have f2 : ((b : Int) == 49) = false := by simpa using h49
    have f3 : ((b : Int) == 46) = false := by simpa using h46
    have f4 : ((b : Int) == 42) = false := by simpa using h42
    have f5 : ((b : Int) == 33) = false := by simpa using h33
    have f6 : ((b : Int) == 40) = false := by simpa using hc40
    have f7 : ((b : Int) != 40) = true := by simpa using hc40
    have f8 := eq_false h48
    have f9 := eq_false h49
    have f10 := eq_false h46
    have f11 := eq_false h42
    have f12 := eq_false h33
    have f13 := eq_false hc40
    go_wp2_with (first | (go_at_call 73; (with_reducible refine (impl_LetterIndex.calls _ _ _ HL2.out).mono ?_); rintro e w3 ⟨rfl, hbl⟩; replace H := H.only hbl.below; clear hbl F0; have F0 := H.f3 0) | ((with_reducible refine gate_store (p := 4) rfl ?_); refine p3_ H 4 0 rfl ?_; clear H F0; intro w5 H; replace H := H.nn))
    refine bodyPost_ret (results_ctt rfl _ _ g4 29 _ (0, 0) _ rfl (H.blk 0 rfl) hu rfl (by kernel_rfl)) rfl ?_
    exact ⟨_, ⟨0, ⟨#[]⟩, []⟩, _, _, rfl, (sub_nil H).one 1, Nat.zero_le _, by rw [HP.out]⟩
  subst hc40
  have HP0 : Aside0 (res = (pN d (bytesOf rs)).bind fun x => (pN d (sgn x.2).2).bind fun y => match y.2 with
      | c :: r => if c = 41 then some (op2 (sgn x.2).1 x.1 y.1, r) else none
      | [] => none) := ⟨by rw [HR.out, HB.out.1]; first | (simp [pN]; done) | (simp [pN]; rfl)⟩
  go_wp2_with (first | (go_at_call 73; (with_reducible refine (impl_LetterIndex.calls _ _ _ HL2.out).mono ?_); rintro e w3 ⟨rfl, hbl⟩; replace H := H.only hbl.below; clear hbl F0; have F0 := H.f3 0) | (((with_reducible refine gate_dst (N := 83) rfl ?_); (first | (refine gL_ (some 83) Try.func48 #[.string rs, .int .i64 (wrap64 (n1 - 1))] ?_; rw [hdd]) | refine gL_ (some 83) Try.func48 #[.string rs, .int .i64 d] ?_); refine (HIH.out rs _ (by have := HS.out; omega)).mono ?_; rintro e w4 ⟨v, q1, r1, ok1, rfl, H2, hr, hm⟩; obtain ⟨A1, c1, rfl, -, -⟩ := H2.tv 0; replace H := (H.call H2).nn; have HM1 := am_ (And.intro hr hm); clear H2 hr hm); clear F0; have F0 := H.f3 0))
  cases ok1
  · have HP : Aside0 (res = none) := ⟨by
      rw [HP0.out]
      have hm := HM1.out.2
      cases hp : pN d (bytesOf rs) with
      | none => rfl
      | some x => rw [hp] at hm; exact absurd hm.1 (by decide)⟩
    refine ⟨_, rfl, ?_⟩
    go_wp2_with (first | ((with_reducible refine gate_dst (N := 13) rfl ?_); refine nw_ H 13 zt 29 rfl ?_; clear H; intro g13 w5 H; replace H := H.nn; have F2 := H.f3 2) | ((with_reducible refine gate_store (p := 13) rfl ?_); refine p3_ H 13 2 rfl ?_; clear H F2; intro w5 H; replace H := H.nn; have F2 := H.f3 2; have F0 := H.f3 0) | ((with_reducible refine gate_store (p := 4) rfl ?_); refine p3_ H 4 0 rfl ?_; clear H F0; intro w5 H; replace H := H.nn))
    refine bodyPost_ret (results_ctt rfl _ _ g4 29 _ (0, 0) _ rfl (H.blk 0 rfl) hu rfl (by kernel_rfl)) rfl ?_
    exact ⟨_, ⟨0, ⟨#[]⟩, []⟩, _, _, rfl, (sub_nil H).one 3, Nat.zero_le _, by rw [HP.out]⟩
  obtain ⟨x1, l1, hp1, rfl, hl1⟩ : ∃ x1 l1, pN d (bytesOf rs) = some (x1, l1) ∧ q1 = tr x1 ∧ bytesOf r1 = l1 := by
    have hm := HM1.out.2
    cases hp : pN d (bytesOf rs) with
    | none => rw [hp] at hm; cases hm
    | some x => rw [hp] at hm; exact ⟨x.1, x.2, rfl, hm.2⟩
  have HP1 := am_ (And.intro hp1 hl1)
  have HR1 := am_ (Nat.le_trans HM1.out.1 (by have := HS.out; omega : rs.size ≤ 140737488351232))
  clear hp1 hl1
  by_cases hz1 : r1.size = 0
  · have i1 := isE hz1
    have HP : Aside0 (res = none) := ⟨by
      rw [HP0.out, HP1.out.1, ← HP1.out.2, show bytesOf r1 = [] from List.eq_nil_of_length_eq_zero (by rw [len_bytes]; exact hz1)]
      cases d with | zero => rfl | succ d => rfl⟩
    clear hz1
    refine ⟨_, rfl, ?_⟩
    go_wp2_with (first | ((with_reducible refine gate_dst (N := 13) rfl ?_); refine nw_ H 13 zt 29 rfl ?_; clear H; intro g13 w5 H; replace H := H.nn; have F2 := H.f3 2) | ((with_reducible refine gate_store (p := 13) rfl ?_); refine p3_ H 13 2 rfl ?_; clear H F2; intro w5 H; replace H := H.nn; have F2 := H.f3 2; have F0 := H.f3 0) | ((with_reducible refine gate_store (p := 4) rfl ?_); refine p3_ H 4 0 rfl ?_; clear H F0; intro w5 H; replace H := H.nn))
    refine bodyPost_ret (results_ctt rfl _ _ g4 29 _ (0, 0) _ rfl (H.blk 0 rfl) hu rfl (by kernel_rfl)) rfl ?_
    exact ⟨_, ⟨0, ⟨#[]⟩, []⟩, _, _, rfl, (sub_nil H).one 3, Nat.zero_le _, by rw [HP.out]⟩
  have j1 : (r1.toList = []) = False := eq_false (isN hz1)
  have j1b : r1.toList.isEmpty = false := by cases hh : r1.toList with
    | nil => exact absurd hh (isN hz1)
    | cons _ _ => rfl
  have j3 : (0 < r1.size) = True := eq_true (by omega)
  have j4 : (1 ≤ r1.size) = True := eq_true (by omega)
  have j5 : ((0 : Int) < (r1.size : Int)) = True := eq_true (by omega)
  have j6 : ((1 : Int) ≤ (r1.size : Int)) = True := eq_true (by omega)
  have hb1 := bytes_cons (s := r1) (of_eq_true j3)
  have hrs1 : (r1.extract 1 r1.size).size = r1.size - 1 := by rw [ByteArray.size_extract]; omega
  have HB1 := am_ (And.intro hb1 hrs1)
  have HZ1 := am_ hz1
  clear hz1 hb1 hrs1
  refine ⟨_, rfl, ?_⟩
  go_wp2_with (first | ((with_reducible refine gate_dst (N := 13) rfl ?_); refine nw_ H 13 zt 29 rfl ?_; clear H; intro g13 w5 H; replace H := H.nn; have F2 := H.f3 2) | ((with_reducible refine gate_store (p := 13) rfl ?_); refine p3_ H 13 2 rfl ?_; clear H F2; intro w5 H; replace H := H.nn; have F2 := H.f3 2; have F0 := H.f3 0))
  · rename_i hk
    refine start_ (n := 4) (S := (fun w' => True)) (ds := []) #[false, false, false, false] (by kernel_rfl) rfl rfl (trivial) (fun hHeld => ?_); refine with_tabW tab26 bits26 (fun HT_ HW_ => ?_)
    replace H := H.drew
    refine ph_ 0 98 #[true, false, false, false] HT_ ?_
    refine ph_ 1 99 #[true, true, false, false] HT_ ?_
    refine ph_ 2 15 #[true, true, true, false] HT_ ?_
    refine ph_ 3 8 #[true, true, true, true] HT_ ?_
    refine done_ (done_of HT_.out (by kernel_rfl)) ?_
    clear HT_ HW_ hHeld F0 F2
    generalize World.drew _ = w6 at H ⊢
    have F0 := H.f3 0
    have F2 := H.f3 2
    generalize hrv1 : r1.extract 1 r1.size = rs1 at *
    have HR2 := am_ (show rs1.size ≤ 140737488351232 from by have := HB1.out.2; have := HR1.out; omega)
    have HK : Aside0 (sgn l1 = (6, bytesOf rs1)) := ⟨by rw [← HP1.out.2, HB1.out.1]; simp only [sgn]; rw [if_pos (eq_of_beq hk)]⟩
    go_wp2_with (((with_reducible refine gate_dst (N := 108) rfl ?_); (first | (refine gL_ (some 108) Try.func48 #[.string rs1, .int .i64 (wrap64 (n1 - 1))] ?_; rw [hdd]) | refine gL_ (some 108) Try.func48 #[.string rs1, .int .i64 d] ?_); refine (HIH.out rs1 _ (HR2.out)).mono ?_; rintro e w4 ⟨v, q2, r2, ok2, rfl, H2, hr, hm⟩; obtain ⟨A2, c2, rfl, -, -⟩ := H2.tv 0; replace H := (H.call H2).nn; have HM2 := am_ (And.intro hr hm); clear H2 hr hm); clear F0 F2; have F0 := H.f3 0; have F2 := H.f3 2)
    have HP3 : Aside0 (res = (pN d (bytesOf rs1)).bind fun y => match y.2 with
        | c :: r => if c = 41 then some (op2 6 x1 y.1, r) else none
        | [] => none) := ⟨by
      rw [HP0.out, HP1.out.1]
      show (pN d (sgn l1).2).bind _ = _
      rw [HK.out]⟩
    cases ok2
    · have HP : Aside0 (res = none) := ⟨by
        rw [HP3.out]
        have hm := HM2.out.2
        cases hp : pN d (bytesOf rs1) with
        | none => rfl
        | some x => rw [hp] at hm; exact absurd hm.1 (by decide)⟩
      refine ⟨_, rfl, ?_⟩
      go_wp2_with (first | ((with_reducible refine gate_dst (N := 16) rfl ?_); refine nw_ H 16 zt 29 rfl ?_; clear H; intro g16 w7 H; replace H := H.nn; have F4 := H.f3 4) | ((with_reducible refine gate_store (p := 16) rfl ?_); refine p3_ H 16 4 rfl ?_; clear H F4; intro w7 H; replace H := H.nn; have F4 := H.f3 4; have F2 := H.f3 2; have F0 := H.f3 0) | ((with_reducible refine gate_store (p := 4) rfl ?_); refine p3_ H 4 0 rfl ?_; clear H F0; intro w7 H; replace H := H.nn))
      refine bodyPost_ret (results_ctt rfl _ _ g4 29 _ (0, 0) _ rfl (H.blk 0 rfl) hu rfl (by kernel_rfl)) rfl ?_
      exact ⟨_, ⟨0, ⟨#[]⟩, []⟩, _, _, rfl, (sub_nil H).one 5, Nat.zero_le _, by rw [HP.out]⟩
    obtain ⟨x2, l2, hp2, rfl, hl2⟩ : ∃ x2 l2, pN d (bytesOf rs1) = some (x2, l2) ∧ q2 = tr x2 ∧ bytesOf r2 = l2 := by
      have hm := HM2.out.2
      cases hp : pN d (bytesOf rs1) with
      | none => rw [hp] at hm; cases hm
      | some x => rw [hp] at hm; exact ⟨x.1, x.2, rfl, hm.2⟩
    have HP4 : Aside0 (res = match bytesOf r2 with
        | c :: r => if c = 41 then some (op2 6 x1 x2, r) else none
        | [] => none) := ⟨by rw [HP3.out, hp2, hl2]; rfl⟩
    have HZ2 : Aside0 (r2.size ≤ rs1.size) := ⟨HM2.out.1⟩
    clear hp2 hl2 HM2 HP3
    by_cases hz2 : r2.size = 0
    · have i1 := isE hz2
      have HP : Aside0 (res = none) := ⟨by
        rw [HP4.out, show bytesOf r2 = [] from List.eq_nil_of_length_eq_zero (by rw [len_bytes]; exact hz2)]⟩
      clear hz2
      refine ⟨_, rfl, ?_⟩
      go_wp2_with (first | ((with_reducible refine gate_dst (N := 16) rfl ?_); refine nw_ H 16 zt 29 rfl ?_; clear H; intro g16 w7 H; replace H := H.nn; have F4 := H.f3 4) | ((with_reducible refine gate_store (p := 16) rfl ?_); refine p3_ H 16 4 rfl ?_; clear H F4; intro w7 H; replace H := H.nn; have F4 := H.f3 4; have F2 := H.f3 2; have F0 := H.f3 0) | ((with_reducible refine gate_store (p := 4) rfl ?_); refine p3_ H 4 0 rfl ?_; clear H F0; intro w7 H; replace H := H.nn))
      refine bodyPost_ret (results_ctt rfl _ _ g4 29 _ (0, 0) _ rfl (H.blk 0 rfl) hu rfl (by kernel_rfl)) rfl ?_
      exact ⟨_, ⟨0, ⟨#[]⟩, []⟩, _, _, rfl, (sub_nil H).one 5, Nat.zero_le _, by rw [HP.out]⟩
    have k1 : (r2.toList = []) = False := eq_false (isN hz2)
    have k1b : r2.toList.isEmpty = false := by cases hh : r2.toList with
      | nil => exact absurd hh (isN hz2)
      | cons _ _ => rfl
    have k3 : (0 < r2.size) = True := eq_true (by omega)
    have k4 : (1 ≤ r2.size) = True := eq_true (by omega)
    have k5 : ((0 : Int) < (r2.size : Int)) = True := eq_true (by omega)
    have k6 : ((1 : Int) ≤ (r2.size : Int)) = True := eq_true (by omega)
    have hb2 := bytes_cons (s := r2) (of_eq_true k3)
    have hrs2 : (r2.extract 1 r2.size).size = r2.size - 1 := by rw [ByteArray.size_extract]; omega
    have HB2 := am_ (And.intro hb2 hrs2)
    clear hz2 hb2 hrs2
    refine ⟨_, rfl, ?_⟩
    go_wp2_with (first | ((with_reducible refine gate_dst (N := 16) rfl ?_); refine nw_ H 16 zt 29 rfl ?_; clear H; intro g16 w7 H; replace H := H.nn; have F4 := H.f3 4) | ((with_reducible refine gate_store (p := 16) rfl ?_); refine p3_ H 16 4 rfl ?_; clear H F4; intro w7 H; replace H := H.nn; have F4 := H.f3 4; have F2 := H.f3 2; have F0 := H.f3 0) | ((with_reducible refine gate_store (p := 4) rfl ?_); refine p3_ H 4 0 rfl ?_; clear H F0; intro w7 H; replace H := H.nn))
    · have hk3 : (((r2[0]'(of_eq_true k3)).toNat : Int) != 41) = true := by assumption
      have HP : Aside0 (res = none) := ⟨by rw [HP4.out, HB2.out.1]; exact if_neg (by simpa using hk3)⟩
      refine bodyPost_ret (results_ctt rfl _ _ g4 29 _ (0, 0) _ rfl (H.blk 0 rfl) hu rfl (by kernel_rfl)) rfl ?_
      exact ⟨_, ⟨0, ⟨#[]⟩, []⟩, _, _, rfl, (sub_nil H).one 5, Nat.zero_le _, by rw [HP.out]⟩
    · have hk3 : (((r2[0]'(of_eq_true k3)).toNat : Int) != 41) = false := by assumption
      have HP : Aside0 (res = some (op2 6 x1 x2, bytesOf (r2.extract 1 r2.size))) := ⟨by rw [HP4.out, HB2.out.1]; exact if_pos (by simpa using hk3)⟩
      have F0 := H.f3 0
      have F2 := H.f3 2
      have F4 := H.f3 4
      refine start_ (n := 10) (S := (fun w' => w'.cell? ⟨g13, 0, none⟩ = some (.int .i64 (tr x1).f0) ∧ w'.cell? ⟨g13, 1, none⟩ = some (.string (tr x1).f1) ∧ w'.cell? ⟨g13, 2, none⟩ = some (.slice A1 (tr x1).f2.length c1) ∧ w'.cell? ⟨g16, 0, none⟩ = some (.int .i64 (tr x2).f0) ∧ w'.cell? ⟨g16, 1, none⟩ = some (.string (tr x2).f1) ∧ w'.cell? ⟨g16, 2, none⟩ = some (.slice A2 (tr x2).f2.length c2))) (ds := [3, 7]) (bl 10 0) (by kernel_rfl) rfl rfl (⟨F2.1.1, F2.2.1.1, F2.2.2.1, F4.1.1, F4.2.1.1, F4.2.2.1⟩) (fun hHeld => ?_); refine with_tabW tab32 bits32 (fun HT_ HW_ => ?_)
      replace H := H.drew
      clear F0 F2 F4
      refine ph_ 0 124 (bl 10 1) HT_ ?_
      refine ph_ 5 129 (bl 10 33) HT_ ?_
      refine ph_ 6 130 (bl 10 97) HT_ ?_
      refine th_ 1 125 (bl 10 99) HT_ HW_ hHeld ?_
      refine th_ 2 126 (bl 10 103) HT_ HW_ hHeld ?_
      refine last_ (i := 3) (N := some 127) (bl 10 111) rfl rfl (one_of HT_.out (by kernel_rfl)) (by decide) (fun K hK => ?_)
      refine bb_ (t1 := tr x1) (t2 := tr x2) H 1 3 (fun h2 w11 H _ => ?_)
      refine hK.out _ _ ?_
      clear hK K
      refine nm_ 127 ?_
      refine ph_ 4 128 (bl 10 127) HT_ ?_
      refine last_ (i := 7) (N := none) (bl 10 255) rfl rfl (one_of HT_.out (by kernel_rfl)) (by decide) (fun K hK => ?_)
      have F1 := H.f3 0
      refine s3_ H 0 (fun w4 H => ?_)
      refine hK.out _ _ ?_
      clear hK K F1
      refine ph_ 8 5 (bl 10 511) HT_ ?_
      refine ph_ 9 6 (bl 10 1023) HT_ ?_
      refine done_ (done_of HT_.out (by kernel_rfl)) ?_
      clear HT_ HW_ hHeld
      go_wp2
      refine bodyPost_ret (results_ctt rfl _ _ g4 29 _ (0, 0) _ rfl (H.blk 0 rfl) hu rfl (by kernel_rfl)) rfl ?_
      refine ⟨_, ⟨6, ⟨#[]⟩, [tr x1, tr x2]⟩, _, _, rfl, H.one 1, by have := HS.out; have := HM1.out.1; have := HB1.out.2; have := HZ2.out; have := HB2.out.2; omega, ?_⟩
      rw [HP.out]
      exact ⟨rfl, rfl, rfl⟩
  · rename_i hk1 hk2
    refine start_ (n := 4) (S := (fun w' => True)) (ds := []) #[false, false, false, false] (by kernel_rfl) rfl rfl (trivial) (fun hHeld => ?_); refine with_tabW tab28 bits26 (fun HT_ HW_ => ?_)
    replace H := H.drew
    refine ph_ 0 102 #[true, false, false, false] HT_ ?_
    refine ph_ 1 103 #[true, true, false, false] HT_ ?_
    refine ph_ 2 15 #[true, true, true, false] HT_ ?_
    refine ph_ 3 8 #[true, true, true, true] HT_ ?_
    refine done_ (done_of HT_.out (by kernel_rfl)) ?_
    clear HT_ HW_ hHeld F0 F2
    generalize World.drew _ = w6 at H ⊢
    have F0 := H.f3 0
    have F2 := H.f3 2
    generalize hrv1 : r1.extract 1 r1.size = rs1 at *
    have HR2 := am_ (show rs1.size ≤ 140737488351232 from by have := HB1.out.2; have := HR1.out; omega)
    have HK : Aside0 (sgn l1 = (7, bytesOf rs1)) := ⟨by rw [← HP1.out.2, HB1.out.1]; simp only [sgn]; rw [if_neg (by simpa using hk1), if_pos (by simpa using hk2)]⟩
    go_wp2_with (((with_reducible refine gate_dst (N := 108) rfl ?_); (first | (refine gL_ (some 108) Try.func48 #[.string rs1, .int .i64 (wrap64 (n1 - 1))] ?_; rw [hdd]) | refine gL_ (some 108) Try.func48 #[.string rs1, .int .i64 d] ?_); refine (HIH.out rs1 _ (HR2.out)).mono ?_; rintro e w4 ⟨v, q2, r2, ok2, rfl, H2, hr, hm⟩; obtain ⟨A2, c2, rfl, -, -⟩ := H2.tv 0; replace H := (H.call H2).nn; have HM2 := am_ (And.intro hr hm); clear H2 hr hm); clear F0 F2; have F0 := H.f3 0; have F2 := H.f3 2)
    have HP3 : Aside0 (res = (pN d (bytesOf rs1)).bind fun y => match y.2 with
        | c :: r => if c = 41 then some (op2 7 x1 y.1, r) else none
        | [] => none) := ⟨by
      rw [HP0.out, HP1.out.1]
      show (pN d (sgn l1).2).bind _ = _
      rw [HK.out]⟩
    cases ok2
    · have HP : Aside0 (res = none) := ⟨by
        rw [HP3.out]
        have hm := HM2.out.2
        cases hp : pN d (bytesOf rs1) with
        | none => rfl
        | some x => rw [hp] at hm; exact absurd hm.1 (by decide)⟩
      refine ⟨_, rfl, ?_⟩
      go_wp2_with (first | ((with_reducible refine gate_dst (N := 16) rfl ?_); refine nw_ H 16 zt 29 rfl ?_; clear H; intro g16 w7 H; replace H := H.nn; have F4 := H.f3 4) | ((with_reducible refine gate_store (p := 16) rfl ?_); refine p3_ H 16 4 rfl ?_; clear H F4; intro w7 H; replace H := H.nn; have F4 := H.f3 4; have F2 := H.f3 2; have F0 := H.f3 0) | ((with_reducible refine gate_store (p := 4) rfl ?_); refine p3_ H 4 0 rfl ?_; clear H F0; intro w7 H; replace H := H.nn))
      refine bodyPost_ret (results_ctt rfl _ _ g4 29 _ (0, 0) _ rfl (H.blk 0 rfl) hu rfl (by kernel_rfl)) rfl ?_
      exact ⟨_, ⟨0, ⟨#[]⟩, []⟩, _, _, rfl, (sub_nil H).one 5, Nat.zero_le _, by rw [HP.out]⟩
    obtain ⟨x2, l2, hp2, rfl, hl2⟩ : ∃ x2 l2, pN d (bytesOf rs1) = some (x2, l2) ∧ q2 = tr x2 ∧ bytesOf r2 = l2 := by
      have hm := HM2.out.2
      cases hp : pN d (bytesOf rs1) with
      | none => rw [hp] at hm; cases hm
      | some x => rw [hp] at hm; exact ⟨x.1, x.2, rfl, hm.2⟩
    have HP4 : Aside0 (res = match bytesOf r2 with
        | c :: r => if c = 41 then some (op2 7 x1 x2, r) else none
        | [] => none) := ⟨by rw [HP3.out, hp2, hl2]; rfl⟩
    have HZ2 : Aside0 (r2.size ≤ rs1.size) := ⟨HM2.out.1⟩
    clear hp2 hl2 HM2 HP3
    by_cases hz2 : r2.size = 0
    · have i1 := isE hz2
      have HP : Aside0 (res = none) := ⟨by
        rw [HP4.out, show bytesOf r2 = [] from List.eq_nil_of_length_eq_zero (by rw [len_bytes]; exact hz2)]⟩
      clear hz2
      refine ⟨_, rfl, ?_⟩
      go_wp2_with (first | ((with_reducible refine gate_dst (N := 16) rfl ?_); refine nw_ H 16 zt 29 rfl ?_; clear H; intro g16 w7 H; replace H := H.nn; have F4 := H.f3 4) | ((with_reducible refine gate_store (p := 16) rfl ?_); refine p3_ H 16 4 rfl ?_; clear H F4; intro w7 H; replace H := H.nn; have F4 := H.f3 4; have F2 := H.f3 2; have F0 := H.f3 0) | ((with_reducible refine gate_store (p := 4) rfl ?_); refine p3_ H 4 0 rfl ?_; clear H F0; intro w7 H; replace H := H.nn))
      refine bodyPost_ret (results_ctt rfl _ _ g4 29 _ (0, 0) _ rfl (H.blk 0 rfl) hu rfl (by kernel_rfl)) rfl ?_
      exact ⟨_, ⟨0, ⟨#[]⟩, []⟩, _, _, rfl, (sub_nil H).one 5, Nat.zero_le _, by rw [HP.out]⟩
    have k1 : (r2.toList = []) = False := eq_false (isN hz2)
    have k1b : r2.toList.isEmpty = false := by cases hh : r2.toList with
      | nil => exact absurd hh (isN hz2)
      | cons _ _ => rfl
    have k3 : (0 < r2.size) = True := eq_true (by omega)
    have k4 : (1 ≤ r2.size) = True := eq_true (by omega)
    have k5 : ((0 : Int) < (r2.size : Int)) = True := eq_true (by omega)
    have k6 : ((1 : Int) ≤ (r2.size : Int)) = True := eq_true (by omega)
    have hb2 := bytes_cons (s := r2) (of_eq_true k3)
    have hrs2 : (r2.extract 1 r2.size).size = r2.size - 1 := by rw [ByteArray.size_extract]; omega
    have HB2 := am_ (And.intro hb2 hrs2)
    clear hz2 hb2 hrs2
    refine ⟨_, rfl, ?_⟩
    go_wp2_with (first | ((with_reducible refine gate_dst (N := 16) rfl ?_); refine nw_ H 16 zt 29 rfl ?_; clear H; intro g16 w7 H; replace H := H.nn; have F4 := H.f3 4) | ((with_reducible refine gate_store (p := 16) rfl ?_); refine p3_ H 16 4 rfl ?_; clear H F4; intro w7 H; replace H := H.nn; have F4 := H.f3 4; have F2 := H.f3 2; have F0 := H.f3 0) | ((with_reducible refine gate_store (p := 4) rfl ?_); refine p3_ H 4 0 rfl ?_; clear H F0; intro w7 H; replace H := H.nn))
    · have hk3 : (((r2[0]'(of_eq_true k3)).toNat : Int) != 41) = true := by assumption
      have HP : Aside0 (res = none) := ⟨by rw [HP4.out, HB2.out.1]; exact if_neg (by simpa using hk3)⟩
      refine bodyPost_ret (results_ctt rfl _ _ g4 29 _ (0, 0) _ rfl (H.blk 0 rfl) hu rfl (by kernel_rfl)) rfl ?_
      exact ⟨_, ⟨0, ⟨#[]⟩, []⟩, _, _, rfl, (sub_nil H).one 5, Nat.zero_le _, by rw [HP.out]⟩
    · have hk3 : (((r2[0]'(of_eq_true k3)).toNat : Int) != 41) = false := by assumption
      have HP : Aside0 (res = some (op2 7 x1 x2, bytesOf (r2.extract 1 r2.size))) := ⟨by rw [HP4.out, HB2.out.1]; exact if_pos (by simpa using hk3)⟩
      have F0 := H.f3 0
      have F2 := H.f3 2
      have F4 := H.f3 4
      refine start_ (n := 10) (S := (fun w' => w'.cell? ⟨g13, 0, none⟩ = some (.int .i64 (tr x1).f0) ∧ w'.cell? ⟨g13, 1, none⟩ = some (.string (tr x1).f1) ∧ w'.cell? ⟨g13, 2, none⟩ = some (.slice A1 (tr x1).f2.length c1) ∧ w'.cell? ⟨g16, 0, none⟩ = some (.int .i64 (tr x2).f0) ∧ w'.cell? ⟨g16, 1, none⟩ = some (.string (tr x2).f1) ∧ w'.cell? ⟨g16, 2, none⟩ = some (.slice A2 (tr x2).f2.length c2))) (ds := [3, 7]) (bl 10 0) (by kernel_rfl) rfl rfl (⟨F2.1.1, F2.2.1.1, F2.2.2.1, F4.1.1, F4.2.1.1, F4.2.2.1⟩) (fun hHeld => ?_); refine with_tabW tab32 bits32 (fun HT_ HW_ => ?_)
      replace H := H.drew
      clear F0 F2 F4
      refine ph_ 0 124 (bl 10 1) HT_ ?_
      refine ph_ 5 129 (bl 10 33) HT_ ?_
      refine ph_ 6 130 (bl 10 97) HT_ ?_
      refine th_ 1 125 (bl 10 99) HT_ HW_ hHeld ?_
      refine th_ 2 126 (bl 10 103) HT_ HW_ hHeld ?_
      refine last_ (i := 3) (N := some 127) (bl 10 111) rfl rfl (one_of HT_.out (by kernel_rfl)) (by decide) (fun K hK => ?_)
      refine bb_ (t1 := tr x1) (t2 := tr x2) H 1 3 (fun h2 w11 H _ => ?_)
      refine hK.out _ _ ?_
      clear hK K
      refine nm_ 127 ?_
      refine ph_ 4 128 (bl 10 127) HT_ ?_
      refine last_ (i := 7) (N := none) (bl 10 255) rfl rfl (one_of HT_.out (by kernel_rfl)) (by decide) (fun K hK => ?_)
      have F1 := H.f3 0
      refine s3_ H 0 (fun w4 H => ?_)
      refine hK.out _ _ ?_
      clear hK K F1
      refine ph_ 8 5 (bl 10 511) HT_ ?_
      refine ph_ 9 6 (bl 10 1023) HT_ ?_
      refine done_ (done_of HT_.out (by kernel_rfl)) ?_
      clear HT_ HW_ hHeld
      go_wp2
      refine bodyPost_ret (results_ctt rfl _ _ g4 29 _ (0, 0) _ rfl (H.blk 0 rfl) hu rfl (by kernel_rfl)) rfl ?_
      refine ⟨_, ⟨7, ⟨#[]⟩, [tr x1, tr x2]⟩, _, _, rfl, H.one 1, by have := HS.out; have := HM1.out.1; have := HB1.out.2; have := HZ2.out; have := HB2.out.2; omega, ?_⟩
      rw [HP.out]
      exact ⟨rfl, rfl, rfl⟩
  · rename_i K hK
    have hk1 : (((r1[0]'(of_eq_true j3)).toNat : Int) == 124) = false := by assumption
    have hk2 : (((r1[0]'(of_eq_true j3)).toNat : Int) == 38) = false := by assumption
    have HK : Aside0 (sgn l1 = (5, bytesOf r1)) := ⟨by rw [← HP1.out.2, HB1.out.1]; simp only [sgn]; rw [if_neg (by simpa using hk1), if_neg (by simpa using hk2)]⟩
    refine (HIH.out r1 _ HR1.out).mono ?_
    rintro e w4 ⟨v, q2, r2, ok2, rfl, H2, hr, hm⟩
    obtain ⟨A2, c2, rfl, -, -⟩ := H2.tv 0
    replace H := (H.call H2).nn
    have HM2 := am_ (And.intro hr hm)
    clear H2 hr hm F2
    have F0 := H.f3 0
    have F2 := H.f3 2
    have HP3 : Aside0 (res = (pN d (bytesOf r1)).bind fun y => match y.2 with
        | c :: r => if c = 41 then some (op2 5 x1 y.1, r) else none
        | [] => none) := ⟨by
      rw [HP0.out, HP1.out.1]
      show (pN d (sgn l1).2).bind _ = _
      rw [HK.out]⟩
    cases ok2
    · have HP : Aside0 (res = none) := ⟨by
        rw [HP3.out]
        have hm := HM2.out.2
        cases hp : pN d (bytesOf r1) with
        | none => rfl
        | some x => rw [hp] at hm; exact absurd hm.1 (by decide)⟩
      refine hK _ _ ?_
      go_wp2_with (first | ((with_reducible refine gate_dst (N := 16) rfl ?_); refine nw_ H 16 zt 29 rfl ?_; clear H; intro g16 w7 H; replace H := H.nn; have F4 := H.f3 4) | ((with_reducible refine gate_store (p := 16) rfl ?_); refine p3_ H 16 4 rfl ?_; clear H F4; intro w7 H; replace H := H.nn; have F4 := H.f3 4; have F2 := H.f3 2; have F0 := H.f3 0) | ((with_reducible refine gate_store (p := 4) rfl ?_); refine p3_ H 4 0 rfl ?_; clear H F0; intro w7 H; replace H := H.nn))
      refine bodyPost_ret (results_ctt rfl _ _ g4 29 _ (0, 0) _ rfl (H.blk 0 rfl) hu rfl (by kernel_rfl)) rfl ?_
      exact ⟨_, ⟨0, ⟨#[]⟩, []⟩, _, _, rfl, (sub_nil H).one 5, Nat.zero_le _, by rw [HP.out]⟩
    obtain ⟨x2, l2, hp2, rfl, hl2⟩ : ∃ x2 l2, pN d (bytesOf r1) = some (x2, l2) ∧ q2 = tr x2 ∧ bytesOf r2 = l2 := by
      have hm := HM2.out.2
      cases hp : pN d (bytesOf r1) with
      | none => rw [hp] at hm; cases hm
      | some x => rw [hp] at hm; exact ⟨x.1, x.2, rfl, hm.2⟩
    have HP4 : Aside0 (res = match bytesOf r2 with
        | c :: r => if c = 41 then some (op2 5 x1 x2, r) else none
        | [] => none) := ⟨by rw [HP3.out, hp2, hl2]; rfl⟩
    have HZ2 : Aside0 (r2.size ≤ r1.size) := ⟨HM2.out.1⟩
    clear hp2 hl2 HM2 HP3
    by_cases hz2 : r2.size = 0
    · have i1 := isE hz2
      have HP : Aside0 (res = none) := ⟨by
        rw [HP4.out, show bytesOf r2 = [] from List.eq_nil_of_length_eq_zero (by rw [len_bytes]; exact hz2)]⟩
      clear hz2
      refine hK _ _ ?_
      go_wp2_with (first | ((with_reducible refine gate_dst (N := 16) rfl ?_); refine nw_ H 16 zt 29 rfl ?_; clear H; intro g16 w7 H; replace H := H.nn; have F4 := H.f3 4) | ((with_reducible refine gate_store (p := 16) rfl ?_); refine p3_ H 16 4 rfl ?_; clear H F4; intro w7 H; replace H := H.nn; have F4 := H.f3 4; have F2 := H.f3 2; have F0 := H.f3 0) | ((with_reducible refine gate_store (p := 4) rfl ?_); refine p3_ H 4 0 rfl ?_; clear H F0; intro w7 H; replace H := H.nn))
      refine bodyPost_ret (results_ctt rfl _ _ g4 29 _ (0, 0) _ rfl (H.blk 0 rfl) hu rfl (by kernel_rfl)) rfl ?_
      exact ⟨_, ⟨0, ⟨#[]⟩, []⟩, _, _, rfl, (sub_nil H).one 5, Nat.zero_le _, by rw [HP.out]⟩
    have k1 : (r2.toList = []) = False := eq_false (isN hz2)
    have k1b : r2.toList.isEmpty = false := by cases hh : r2.toList with
      | nil => exact absurd hh (isN hz2)
      | cons _ _ => rfl
    have k3 : (0 < r2.size) = True := eq_true (by omega)
    have k4 : (1 ≤ r2.size) = True := eq_true (by omega)
    have k5 : ((0 : Int) < (r2.size : Int)) = True := eq_true (by omega)
    have k6 : ((1 : Int) ≤ (r2.size : Int)) = True := eq_true (by omega)
    have hb2 := bytes_cons (s := r2) (of_eq_true k3)
    have hrs2 : (r2.extract 1 r2.size).size = r2.size - 1 := by rw [ByteArray.size_extract]; omega
    have HB2 := am_ (And.intro hb2 hrs2)
    clear hz2 hb2 hrs2
    refine hK _ _ ?_
    go_wp2_with (first | ((with_reducible refine gate_dst (N := 16) rfl ?_); refine nw_ H 16 zt 29 rfl ?_; clear H; intro g16 w7 H; replace H := H.nn; have F4 := H.f3 4) | ((with_reducible refine gate_store (p := 16) rfl ?_); refine p3_ H 16 4 rfl ?_; clear H F4; intro w7 H; replace H := H.nn; have F4 := H.f3 4; have F2 := H.f3 2; have F0 := H.f3 0) | ((with_reducible refine gate_store (p := 4) rfl ?_); refine p3_ H 4 0 rfl ?_; clear H F0; intro w7 H; replace H := H.nn))
    · have hk3 : (((r2[0]'(of_eq_true k3)).toNat : Int) != 41) = true := by assumption
      have HP : Aside0 (res = none) := ⟨by rw [HP4.out, HB2.out.1]; exact if_neg (by simpa using hk3)⟩
      refine bodyPost_ret (results_ctt rfl _ _ g4 29 _ (0, 0) _ rfl (H.blk 0 rfl) hu rfl (by kernel_rfl)) rfl ?_
      exact ⟨_, ⟨0, ⟨#[]⟩, []⟩, _, _, rfl, (sub_nil H).one 5, Nat.zero_le _, by rw [HP.out]⟩
    · have hk3 : (((r2[0]'(of_eq_true k3)).toNat : Int) != 41) = false := by assumption
      have HP : Aside0 (res = some (op2 5 x1 x2, bytesOf (r2.extract 1 r2.size))) := ⟨by rw [HP4.out, HB2.out.1]; exact if_pos (by simpa using hk3)⟩
      have F0 := H.f3 0
      have F2 := H.f3 2
      have F4 := H.f3 4
      refine start_ (n := 10) (S := (fun w' => w'.cell? ⟨g13, 0, none⟩ = some (.int .i64 (tr x1).f0) ∧ w'.cell? ⟨g13, 1, none⟩ = some (.string (tr x1).f1) ∧ w'.cell? ⟨g13, 2, none⟩ = some (.slice A1 (tr x1).f2.length c1) ∧ w'.cell? ⟨g16, 0, none⟩ = some (.int .i64 (tr x2).f0) ∧ w'.cell? ⟨g16, 1, none⟩ = some (.string (tr x2).f1) ∧ w'.cell? ⟨g16, 2, none⟩ = some (.slice A2 (tr x2).f2.length c2))) (ds := [3, 7]) (bl 10 0) (by kernel_rfl) rfl rfl (⟨F2.1.1, F2.2.1.1, F2.2.2.1, F4.1.1, F4.2.1.1, F4.2.2.1⟩) (fun hHeld => ?_); refine with_tabW tab32 bits32 (fun HT_ HW_ => ?_)
      replace H := H.drew
      clear F0 F2 F4
      refine ph_ 0 124 (bl 10 1) HT_ ?_
      refine ph_ 5 129 (bl 10 33) HT_ ?_
      refine ph_ 6 130 (bl 10 97) HT_ ?_
      refine th_ 1 125 (bl 10 99) HT_ HW_ hHeld ?_
      refine th_ 2 126 (bl 10 103) HT_ HW_ hHeld ?_
      refine last_ (i := 3) (N := some 127) (bl 10 111) rfl rfl (one_of HT_.out (by kernel_rfl)) (by decide) (fun K hK => ?_)
      refine bb_ (t1 := tr x1) (t2 := tr x2) H 1 3 (fun h2 w11 H _ => ?_)
      refine hK.out _ _ ?_
      clear hK K
      refine nm_ 127 ?_
      refine ph_ 4 128 (bl 10 127) HT_ ?_
      refine last_ (i := 7) (N := none) (bl 10 255) rfl rfl (one_of HT_.out (by kernel_rfl)) (by decide) (fun K hK => ?_)
      have F1 := H.f3 0
      refine s3_ H 0 (fun w4 H => ?_)
      refine hK.out _ _ ?_
      clear hK K F1
      refine ph_ 8 5 (bl 10 511) HT_ ?_
      refine ph_ 9 6 (bl 10 1023) HT_ ?_
      refine done_ (done_of HT_.out (by kernel_rfl)) ?_
      clear HT_ HW_ hHeld
      go_wp2
      refine bodyPost_ret (results_ctt rfl _ _ g4 29 _ (0, 0) _ rfl (H.blk 0 rfl) hu rfl (by kernel_rfl)) rfl ?_
      refine ⟨_, ⟨5, ⟨#[]⟩, [tr x1, tr x2]⟩, _, _, rfl, H.one 1, by have := HS.out; have := HM1.out.1; have := HB1.out.2; have := HZ2.out; have := HB2.out.2; omega, ?_⟩
      rw [HP.out]
      exact ⟨rfl, rfl, rfl⟩
theorem readCalls : ∀ d : Nat, d ≤ 1000 → RdAt d
  | 0, _ => fun s w _ => rdFail 0 s w (Or.inr rfl)
  | d + 1, hd => fun s w hs => by
    by_cases hz : s.size = 0
    · have := rdFail (d + 1) s w (Or.inl hz)
      rw [show bytesOf s = [] from List.eq_nil_of_length_eq_zero (by rw [len_bytes]; exact hz)]
      exact this
    · exact rdStep d s w hs hd hz (readCalls d (by omega))
end Go.Proofs.Ytldgkgdgcfllmaa
end
