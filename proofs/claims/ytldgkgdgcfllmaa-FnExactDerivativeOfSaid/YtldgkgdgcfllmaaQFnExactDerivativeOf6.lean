/- Texts of the proof of FnExactDerivativeOf, put together. No condition. -/
import Derived.Test.YtldgkgdgcfllmaaQFnExactDerivativeOf2
import Derived.Shelf.Abstract
import Derived.Lib.Walk
import Derived.Test.YtldgkgdgcfllmaaQFnExactDerivativeOf4
import Derived.Test.YtldgkgdgcfllmaaQFnExactDerivativeOf5
section
namespace Go.Proofs.Ytldgkgdgcfllmaa.Rg
open Go.RowKit Go.Shelf Go.Proofs.Ytldgkgdgcfllmaa.P Go.Proofs.Ytldgkgdgcfllmaa.Pl Go.Proofs.YtldgkgdgcfllmaaW.PrintWords Go.Proofs.YtldgkgdgcfllmaaW.PrintLast Go.Proofs.YtldgkgdgcfllmaaW.PrintMore
set_option linter.unusedVariables false
set_option linter.unusedSimpArgs false
def bit2 (b : Bool) : Int := if b then 1 else 2
def encf (N : Nat) (f : Nat → Int) : Array Value := ((List.range N).map (fun j => Value.int .i64 (f j))).toArray
theorem encf_get {N : Nat} {f : Nat → Int} {j : Nat} (h : j < N) : (encf N f)[j]? = some (.int .i64 (f j)) := by
  unfold encf
  simp [h]
def upd (V : Nat → Nat → Nat → Int) (n i j : Nat) (x : Int) : Nat → Nat → Nat → Int := fun n' i' j' => if n' = n ∧ i' = i ∧ j' = j then x else V n' i' j'
theorem encf_set {N : Nat} {V : Nat → Nat → Nat → Int} {n i j : Nat} (x : Int) : (encf N (V n i)).setIfInBounds j (.int .i64 x) = encf N (upd V n i j x n i) := by
  unfold encf
  apply Array.toList_inj.mp
  simp only [Array.toList_setIfInBounds]
  refine List.ext_getElem (by simp) (fun k h1 h2 => ?_)
  simp only [List.length_set, List.length_map, List.length_range] at h1
  rw [List.getElem_set]
  simp only [List.getElem_map, List.getElem_range, upd, true_and]
  by_cases e : j = k
  · subst e; simp
  · rw [if_neg e, if_neg (fun e2 => e e2.symm)]
theorem encf_upd {N : Nat} {V : Nat → Nat → Nat → Int} {n i j n' i' : Nat} (x : Int) (h : ¬ (n' = n ∧ i' = i)) : encf N (upd V n i j x n' i') = encf N (V n' i') := by
  unfold encf upd
  congr 1
  refine List.map_congr_left fun k _ => ?_
  rw [if_neg (fun e => h ⟨e.1, e.2.1⟩)]
structure Stat (w1 : World) (T N : Nat) (b : Nat → Nat → Nat) (a : Addr) (v : Value) : Prop where
  cell : w1.cell? a = some v
  away : ∀ n i, n < T → i < N → a.block ≠ b n i
structure Lay (w1 : World) (gz : Nat) (s : ByteArray) (N : Nat) (X : List Rx) (C : List (List Int)) (b : Nat → Nat → Nat) (an aa am : Addr) : Prop where
  inj : ∀ n i n' i', n < X.length → i < N → n' < X.length → i' < N → b n i = b n' i' → n = n' ∧ i = i'
  zs : Stat w1 X.length N b ⟨gz, 0, none⟩ (.string s)
  z1 : ∃ c, Stat w1 X.length N b ⟨gz, 1, none⟩ (.slice (some an) X.length c)
  z2 : ∃ c, Stat w1 X.length N b ⟨gz, 2, none⟩ (.slice (some aa) X.length c)
  z3 : ∃ c, Stat w1 X.length N b ⟨gz, 3, none⟩ (.slice (some am) X.length c)
  nk : ∀ n x, X[n]? = some x → Stat w1 X.length N b (an.add (n * 3)) (.int .i64 (kindOf x))
  nl : ∀ n c, X[n]? = some (.letter c) → Stat w1 X.length N b ⟨(an.add (n * 3)).block, (an.add (n * 3)).off + 1, none⟩ (.string c)
  ak : ∀ n c, C[n]? = some c → ∃ A cc, Stat w1 X.length N b (aa.add n) (.slice A c.length cc) ∧ ∀ k q, c[k]? = some q → ∃ ad, A = some ad ∧ Stat w1 X.length N b (ad.add k) (.int .i64 q)
  mr : ∀ n, n < X.length → ∃ at_ c, Stat w1 X.length N b (am.add n) (.slice (some at_) N c) ∧ ∀ i, i < N → Stat w1 X.length N b (at_.add i) (.slice (some ⟨b n i, 0, none⟩) N N)
structure Ms (w0 w1 W : World) (T N : Nat) (b : Nat → Nat → Nat) (V : Nat → Nat → Nat → Int) : Prop where
  keep : Kept w1 W (fun k => ∃ n i, n < T ∧ i < N ∧ k = b n i)
  rows : ∀ n i, n < T → i < N → W.heap[b n i]? = some (.cells (encf N (V n i)) 3 (0, 0))
  bel : Below w0.heap.size w0 W
  lb : ∀ n i, n < T → i < N → w0.heap.size ≤ b n i
section
variable {w0 w1 W W' : World} {T N : Nat} {b : Nat → Nat → Nat} {V : Nat → Nat → Nat → Int}
theorem Ms.below (h : Ms w0 w1 W T N b V) (hb : Below W.heap.size W W') : Ms w0 w1 W' T N b V := ⟨h.keep.below hb, fun n i hn hi => blk_below (h.rows n i hn hi) hb, below_then h.bel h.bel.size hb, h.lb⟩
theorem Ms.stat (h : Ms w0 w1 W T N b V) {a : Addr} {v : Value} (hc : w1.cell? a = some v) (hn : ∀ n i, n < T → i < N → a.block ≠ b n i) : W.cell? a = some v := by
  have hlt := World.block_lt_of_cell? _ _ hc
  have := h.keep.2 a.block hlt (by rintro ⟨n, i, h1, h2, e⟩; exact hn n i h1 h2 e)
  unfold World.cell? at hc ⊢
  rw [this]
  exact hc
theorem Ms.get (h : Ms w0 w1 W T N b V) {a : Addr} {v : Value} (hs : Stat w1 T N b a v) : W.cell? a = some v := h.stat hs.cell hs.away
theorem Ms.cell (h : Ms w0 w1 W T N b V) {n i j : Nat} (hn : n < T) (hi : i < N) (hj : j < N) : W.cell? ⟨b n i, j, none⟩ = some (.int .i64 (V n i j)) := (blk_cell (h.rows n i hn hi) j).trans (encf_get hj)
theorem Ms.put (h : Ms w0 w1 W T N b V) (hinj : ∀ n i n' i', n < T → i < N → n' < T → i' < N → b n i = b n' i' → n = n' ∧ i = i') {n i : Nat} (hn : n < T) (hi : i < N) (j : Nat) (x : Int) : Ms w0 w1 (W.setCell ⟨b n i, j, none⟩ (.int .i64 x)) T N b (upd V n i j x) := by
  refine ⟨h.keep.setCell (Or.inl ⟨n, i, hn, hi, rfl⟩) _, fun n' i' h1 h2 => ?_, below_set h.bel (h.lb n i hn hi), h.lb⟩
  by_cases e : n' = n ∧ i' = i
  · obtain ⟨rfl, rfl⟩ := e
    have := blk_set (h.rows n' i' h1 h2) j (.int .i64 x)
    rw [encf_set] at this
    exact this
  · rw [encf_upd x e]
    exact blk_far (h.rows n' i' h1 h2) (fun e2 => e (hinj n' i' n i h1 h2 hn hi e2)) _
end
def OkV (E : Nat → Nat → Nat → Bool) (V : Nat → Nat → Nat → Int) (n : Nat) : Prop := ∀ n' i j, n' < n → V n' i j = 0 ∨ V n' i j = bit2 (E n' i j)
def Inv (E : Nat → Nat → Nat → Bool) (V V' : Nat → Nat → Nat → Int) (n : Nat) : Prop := ∀ n' i j, V' n' i j = V n' i j ∨ (n' < n ∧ V' n' i j = bit2 (E n' i j))
section
variable {E : Nat → Nat → Nat → Bool} {V V' V2 : Nat → Nat → Nat → Int} {n p : Nat}
theorem OkV.inv (h : OkV E V n) (hi : Inv E V V' p) : OkV E V' n := fun n' i j hn => by
  rcases hi n' i j with e | ⟨_, e⟩
  · rw [e]; exact h n' i j hn
  · exact Or.inr e
theorem OkV.less (h : OkV E V n) (hp : p ≤ n) : OkV E V p := fun n' i j hn => h n' i j (by omega)
theorem Inv.refl : Inv E V V n := fun _ _ _ => Or.inl rfl
theorem Inv.trans (h : Inv E V V' n) (g : Inv E V' V2 p) (hp : p ≤ n) : Inv E V V2 n := fun n' i j => by
  rcases g n' i j with e | ⟨a, e⟩
  · rw [e]; exact h n' i j
  · exact Or.inr ⟨by omega, e⟩
theorem Inv.more (h : Inv E V V' p) (hp : p ≤ n) : Inv E V V' n := fun n' i j => by
  rcases h n' i j with e | ⟨a, e⟩
  · exact Or.inl e
  · exact Or.inr ⟨by omega, e⟩
end
def PostS (w0 w1 : World) (T N : Nat) (b : Nat → Nat → Nat) (E : Nat → Nat → Nat → Bool) (V : Nat → Nat → Nat → Int) (n : Nat) (r : Bool) (e : Ending) (W' : World) : Prop :=
  e = .returned (.bool r) ∧ ∃ V', Inv E V V' n ∧ Ms w0 w1 W' T N b V'
def KidS (w0 w1 : World) (gz T N : Nat) (b : Nat → Nat → Nat) (E : Nat → Nat → Nat → Bool) (p : Nat) (q : Int) : Prop := ∀ (i j : Nat) (W : World) (V : Nat → Nat → Nat → Int), i ≤ j → j < N → OkV E V (p + 1) → Ms w0 w1 W T N b V →
  Calls Try.prog 77 #[.pointer (some ⟨gz, 0, none⟩), .int .i64 q, .int .i64 i, .int .i64 j] W (PostS w0 w1 T N b E V (p + 1) (E p i j))
set_option maxHeartbeats 4000000 in
set_option maxRecDepth 100000 in
theorem isKnown (w0 w1 W : World) (gz : Nat) (s : ByteArray) (N : Nat) (X : List Rx) (C : List (List Int)) (b : Nat → Nat → Nat) (an aa am : Addr) (E : Nat → Nat → Nat → Bool) (V : Nat → Nat → Nat → Int) (lay : Lay w1 gz s N X C b an aa am) (n i j : Nat) (hn : n < X.length) (hi : i < N) (hj : j < N) (hN : N ≤ 1000) (hT : X.length ≤ 1000) (hm : Ms w0 w1 W X.length N b V) (hv : V n i j = bit2 (E n i j)) :
    Calls Try.prog 77 #[.pointer (some ⟨gz, 0, none⟩), .int .i64 n, .int .i64 i, .int .i64 j] W (PostS w0 w1 X.length N b E V (n + 1) (E n i j)) := by
  have HM := am_ hm
  obtain ⟨c3, z3⟩ := lay.z3
  obtain ⟨at_, ca, m1, m2⟩ := lay.mr n hn
  have k0 := hm.get z3
  have k1 := hm.get m1
  have k2 := hm.get (m2 i hi)
  have k3 := hm.cell hn hi hj
  rw [hv] at k3
  have p1 : ((0 : Int) ≤ (n : Int)) = True := eq_true (by omega)
  have q1 : ((n : Int) < (X.length : Int)) = True := eq_true (by omega)
  have p2 : ((0 : Int) ≤ (i : Int)) = True := eq_true (by omega)
  have q2 : ((i : Int) < (N : Int)) = True := eq_true (by omega)
  have p3 : ((0 : Int) ≤ (j : Int)) = True := eq_true (by omega)
  have q3 : ((j : Int) < (N : Int)) = True := eq_true (by omega)
  clear hv z3 m1 m2 lay hm
  generalize E n i j = res at k3 ⊢
  cases res <;> simp only [bit2, if_true, Bool.false_eq_true, if_false] at k3
  all_goals
    go_enter Try.func77, Try.ntmps77
    go_wp2
    go_ret
    exact ⟨rfl, V, Inv.refl, HM.out⟩
end Go.Proofs.Ytldgkgdgcfllmaa.Rg
end
section
namespace Go.Proofs.Ytldgkgdgcfllmaa.Rg
open Go.RowKit Go.Shelf Go.Proofs.Ytldgkgdgcfllmaa.P Go.Proofs.Ytldgkgdgcfllmaa.Pl Go.Proofs.YtldgkgdgcfllmaaW.PrintWords Go.Proofs.YtldgkgdgcfllmaaW.PrintLast Go.Proofs.YtldgkgdgcfllmaaW.PrintMore
set_option linter.unusedVariables false
set_option linter.unusedSimpArgs false
structure Sf (w0 w1 : World) (T N : Nat) (b : Nat → Nat → Nat) (E : Nat → Nat → Nat → Bool) (V : Nat → Nat → Nat → Int) (n : Nat) (W : World) (V' : Nat → Nat → Nat → Int) : Prop where
  ok : OkV E V n
  inv : Inv E V V' n
  mem : Ms w0 w1 W T N b V'
section
variable {w0 w1 W W' W2 : World} {T N n p : Nat} {b : Nat → Nat → Nat} {E : Nat → Nat → Nat → Bool} {V V' : Nat → Nat → Nat → Int} {r : Bool} {e : Ending}
theorem Sf.step (h : Sf w0 w1 T N b E V n W V') (hp : p < n) (g : PostS w0 w1 T N b E V' (p + 1) r e W2) : e = .returned (.bool r) ∧ ∃ V2, Sf w0 w1 T N b E V n W2 V2 := by
  obtain ⟨he, V2, h1, h2⟩ := g
  exact ⟨he, V2, h.ok, h.inv.trans h1 (by omega), h2⟩
theorem Sf.post (h : Sf w0 w1 T N b E V n W V') : PostS w0 w1 T N b E V n r (.returned (.bool r)) W := ⟨rfl, V', h.inv, h.mem⟩
theorem Sf.oks (h : Sf w0 w1 T N b E V n W V') (hp : p < n) : OkV E V' (p + 1) := (h.ok.inv h.inv).less (by omega)
theorem Sf.below (h : Sf w0 w1 T N b E V n W V') (hb : Below W.heap.size W W2) : Sf w0 w1 T N b E V n W2 V' := ⟨h.ok, h.inv, h.mem.below hb⟩
end
abbrev FindAt (w0 w1 W : World) (gz T N : Nat) (b : Nat → Nat → Nat) (E : Nat → Nat → Nat → Bool) (V : Nat → Nat → Nat → Int) (n i j : Nat) (r : Bool) : Prop :=
  Calls Try.prog 87 #[.pointer (some ⟨gz, 0, none⟩), .int .i64 n, .int .i64 i, .int .i64 j] W (PostS w0 w1 T N b E V n r)
set_option maxHeartbeats 4000000 in
set_option maxRecDepth 100000 in
theorem findLeafS (w0 w1 W : World) (gz : Nat) (s : ByteArray) (N : Nat) (X : List Rx) (C : List (List Int)) (b : Nat → Nat → Nat) (an aa am : Addr) (E : Nat → Nat → Nat → Bool) (V : Nat → Nat → Nat → Int) (lay : Lay w1 gz s N X C b an aa am) (n i j : Nat) (x : Rx) (c : List Int) (hx : X[n]? = some x) (hc : C[n]? = some c) (hk : x = .none ∨ x = .empty ∨ x = .any) (hi : i ≤ j) (hj : j ≤ s.size) (hs : s.size ≤ 900) (hT : X.length ≤ 1000) (hok : OkV E V n) (hm : Ms w0 w1 W X.length N b V) :
    FindAt w0 w1 W gz X.length N b E V n i j (mt (bytesOf s) x i j) := by
  have HS : Aside0 (Sf w0 w1 X.length N b E V n W V) := ⟨hok, Inv.refl, hm⟩
  have hn : n < X.length := (List.getElem?_eq_some_iff.mp hx).1
  have hlen : (bytesOf s).length = s.size := len_bytes s
  obtain ⟨c1, z1⟩ := lay.z1
  obtain ⟨c2, z2⟩ := lay.z2
  obtain ⟨A, cc, a1, a2⟩ := lay.ak n c hc
  have k1 := hm.get z1
  have k2 := hm.get z2
  have k3 := hm.get a1
  have k4 := hm.get (lay.nk n x hx)
  have p1 : ((0 : Int) ≤ (n : Int)) = True := eq_true (by omega)
  have q1 : ((n : Int) < (X.length : Int)) = True := eq_true (by omega)
  clear z1 z2 a1 a2 lay hx hc hok hm
  rcases hk with rfl | rfl | rfl
  · rw [mt_none]
    rw [show kindOf .none = 1 from rfl] at k4
    go_enter Try.func87, Try.ntmps87
    go_wp2
    go_ret
    exact HS.out.post
  · rw [mt_empty hi (by omega)]
    rw [show kindOf .empty = 2 from rfl] at k4
    by_cases e : i = j
    · have e1 : ((i : Int) = (j : Int)) = True := eq_true (by omega)
      have e2 : ((i : Int) == (j : Int)) = true := beq_iff_eq.mpr (by omega)
      have e3 : decide ((i : Int) = (j : Int)) = true := decide_eq_true (by omega)
      have e4 : decide (i = j) = true := decide_eq_true e
      rw [e4]
      clear e e4 hi hj hs hlen hn hT
      go_enter Try.func87, Try.ntmps87
      go_wp2
      go_ret
      exact HS.out.post
    · have e1 : ((i : Int) = (j : Int)) = False := eq_false (by omega)
      have e2 : ((i : Int) == (j : Int)) = false := beq_eq_false_iff_ne.mpr (by omega)
      have e3 : decide ((i : Int) = (j : Int)) = false := decide_eq_false (by omega)
      have e4 : decide (i = j) = false := decide_eq_false e
      rw [e4]
      clear e e4 hi hj hs hlen hn hT
      go_enter Try.func87, Try.ntmps87
      go_wp2
      go_ret
      exact HS.out.post
  · rw [mt_any hi (by omega)]
    rw [show kindOf .any = 4 from rfl] at k4
    have hw : IntKind.i64.wrap ((i : Int) + 1) = (i : Int) + 1 := wr_ (by omega) (by omega)
    by_cases e : j = i + 1
    · have e1 : ((j : Int) = (i : Int) + 1) = True := eq_true (by omega)
      have e2 : ((j : Int) == (i : Int) + 1) = true := beq_iff_eq.mpr (by omega)
      have e3 : decide ((j : Int) = (i : Int) + 1) = true := decide_eq_true (by omega)
      have e4 : decide (j = i + 1) = true := decide_eq_true e
      rw [e4]
      clear e e4 hlen
      go_enter Try.func87, Try.ntmps87
      go_wp2
      go_ret
      exact HS.out.post
    · have e1 : ((j : Int) = (i : Int) + 1) = False := eq_false (by omega)
      have e2 : ((j : Int) == (i : Int) + 1) = false := beq_eq_false_iff_ne.mpr (by omega)
      have e3 : decide ((j : Int) = (i : Int) + 1) = false := decide_eq_false (by omega)
      have e4 : decide (j = i + 1) = false := decide_eq_false e
      rw [e4]
      clear e e4 hlen
      go_enter Try.func87, Try.ntmps87
      go_wp2
      go_ret
      exact HS.out.post
set_option maxHeartbeats 4000000 in
set_option maxRecDepth 100000 in
theorem findNotS (w0 w1 W : World) (gz : Nat) (s : ByteArray) (N : Nat) (X : List Rx) (C : List (List Int)) (b : Nat → Nat → Nat) (an aa am : Addr) (E : Nat → Nat → Nat → Bool) (V : Nat → Nat → Nat → Int) (lay : Lay w1 gz s N X C b an aa am) (n i j p : Nat) (y : Rx) (hx : X[n]? = some (.not y)) (hc : C[n]? = some [(p : Int)]) (hp : p < n) (hi : i ≤ j) (hj : j < N) (hT : X.length ≤ 1000) (hok : OkV E V n) (hm : Ms w0 w1 W X.length N b V) (hk : KidS w0 w1 gz X.length N b E p (p : Int)) :
    FindAt w0 w1 W gz X.length N b E V n i j (!E p i j) := by
  have HS : Aside0 (Sf w0 w1 X.length N b E V n W V) := ⟨hok, Inv.refl, hm⟩
  have hn : n < X.length := (List.getElem?_eq_some_iff.mp hx).1
  obtain ⟨c1, z1⟩ := lay.z1
  obtain ⟨c2, z2⟩ := lay.z2
  obtain ⟨A, cc, a1, a2⟩ := lay.ak n _ hc
  obtain ⟨ad, rfl, a3⟩ := a2 0 _ rfl
  rw [Addr.add_zero'] at a3
  have k1 := hm.get z1
  have k2 := hm.get z2
  have k3 := hm.get a1
  have k4 := hm.get (lay.nk n _ hx)
  have k5 := hm.get a3
  have p1 : ((0 : Int) ≤ (n : Int)) = True := eq_true (by omega)
  have q1 : ((n : Int) < (X.length : Int)) = True := eq_true (by omega)
  have HKC := am_ (hk i j W V hi hj (HS.out.oks hp) hm)
  have HP := am_ hp
  rw [show ([(p : Int)] : List Int).length = 1 from rfl] at k3
  rw [show kindOf (.not y) = 9 from rfl] at k4
  generalize E p i j = res at HKC ⊢
  clear z1 z2 a1 a2 a3 lay hx hc hok hm hk hp
  cases res
  all_goals
    go_enter Try.func87, Try.ntmps87
    go_wp2_with (go_at_call 77; (with_reducible refine HKC.out.mono ?_); rintro e w2 hp; obtain ⟨rfl, V2, hs2⟩ := HS.out.step HP.out hp; have HS2 := am_ hs2; clear hp hs2)
    go_ret
    exact HS2.out.post
set_option maxHeartbeats 4000000 in
set_option maxRecDepth 100000 in
theorem findTwoS (w0 w1 W : World) (gz : Nat) (s : ByteArray) (N : Nat) (X : List Rx) (C : List (List Int)) (b : Nat → Nat → Nat) (an aa am : Addr) (E : Nat → Nat → Nat → Bool) (V : Nat → Nat → Nat → Int) (lay : Lay w1 gz s N X C b an aa am) (n i j p q : Nat) (x y z : Rx) (hx : X[n]? = some x) (hz : (x = .or y z ∧ true = true) ∨ (x = .and y z ∧ true = true)) (hc : C[n]? = some [(p : Int), (q : Int)]) (hp : p < n) (hq : q < n) (hi : i ≤ j) (hj : j < N) (hT : X.length ≤ 1000) (hok : OkV E V n) (hm : Ms w0 w1 W X.length N b V) (hk : KidS w0 w1 gz X.length N b E p (p : Int)) (hk2 : KidS w0 w1 gz X.length N b E q (q : Int)) (R : Bool) (h1 : x = .or y z → R = (E p i j || E q i j)) (h2 : x = .and y z → R = (E p i j && E q i j)) :
    FindAt w0 w1 W gz X.length N b E V n i j R := by
  have HS : Aside0 (Sf w0 w1 X.length N b E V n W V) := ⟨hok, Inv.refl, hm⟩
  have hn : n < X.length := (List.getElem?_eq_some_iff.mp hx).1
  obtain ⟨c1, z1⟩ := lay.z1
  obtain ⟨c2, z2⟩ := lay.z2
  obtain ⟨A, cc, a1, a2⟩ := lay.ak n _ hc
  obtain ⟨ad, rfl, a3⟩ := a2 0 _ rfl
  obtain ⟨ad2, he, a4⟩ := a2 1 _ rfl
  cases he
  rw [Addr.add_zero'] at a3
  rw [show ad.add 1 = ⟨ad.block, ad.off + 1, none⟩ from rfl] at a4
  have k1 := hm.get z1
  have k2 := hm.get z2
  have k3 := hm.get a1
  have k4 := hm.get (lay.nk n _ hx)
  have k5 := hm.get a3
  have p1 : ((0 : Int) ≤ (n : Int)) = True := eq_true (by omega)
  have q1 : ((n : Int) < (X.length : Int)) = True := eq_true (by omega)
  have HKC := am_ (hk i j W V hi hj (HS.out.oks hp) hm)
  have HKD := am_ (fun W2 V2 (h : Sf w0 w1 X.length N b E V n W2 V2) => hk2 i j W2 V2 hi hj (h.oks hq) h.mem)
  have HP := am_ hp
  have HQ := am_ hq
  have HA4 := am_ a4
  rw [show ([(p : Int), (q : Int)] : List Int).length = 2 from rfl] at k3
  generalize E p i j = ra at HKC h1 h2
  generalize E q i j = rb at HKD h1 h2
  clear z1 z2 a1 a2 a3 a4 hc hok hm hk hp hk2 hq lay hi hj
  rcases hz with ⟨rfl, _⟩ | ⟨rfl, _⟩
  · rw [show kindOf (.or y z) = 6 from rfl] at k4
    have hr := h1 rfl
    subst hr
    clear h1 h2 hx
    cases ra
    · rw [Bool.false_or]
      cases rb
      all_goals
        go_enter Try.func87, Try.ntmps87
        go_wp2_with (first | (go_at_call 77; (with_reducible refine HKC.out.mono ?_); rintro e w2 hp; obtain ⟨rfl, V2, hs2⟩ := HS.out.step HP.out hp; have HS2 := am_ hs2; have k9 := hs2.mem.get HA4.out; clear hp hs2) | (go_at_call 77; (with_reducible refine (HKD.out _ _ HS2.out).mono ?_); rintro e w3 hp; obtain ⟨rfl, V3, hs3⟩ := HS2.out.step HQ.out hp; have HS3 := am_ hs3; clear hp hs3))
        go_ret
        exact HS3.out.post
    · rw [Bool.true_or]
      go_enter Try.func87, Try.ntmps87
      go_wp2_with (go_at_call 77; (with_reducible refine HKC.out.mono ?_); rintro e w2 hp; obtain ⟨rfl, V2, hs2⟩ := HS.out.step HP.out hp; have HS2 := am_ hs2; have k9 := hs2.mem.get HA4.out; clear hp hs2)
      go_ret
      exact HS2.out.post
  · rw [show kindOf (.and y z) = 7 from rfl] at k4
    have hr := h2 rfl
    subst hr
    clear h1 h2 hx
    cases ra
    · rw [Bool.false_and]
      go_enter Try.func87, Try.ntmps87
      go_wp2_with (go_at_call 77; (with_reducible refine HKC.out.mono ?_); rintro e w2 hp; obtain ⟨rfl, V2, hs2⟩ := HS.out.step HP.out hp; have HS2 := am_ hs2; have k9 := hs2.mem.get HA4.out; clear hp hs2)
      go_ret
      exact HS2.out.post
    · rw [Bool.true_and]
      cases rb
      all_goals
        go_enter Try.func87, Try.ntmps87
        go_wp2_with (first | (go_at_call 77; (with_reducible refine HKC.out.mono ?_); rintro e w2 hp; obtain ⟨rfl, V2, hs2⟩ := HS.out.step HP.out hp; have HS2 := am_ hs2; have k9 := hs2.mem.get HA4.out; clear hp hs2) | (go_at_call 77; (with_reducible refine (HKD.out _ _ HS2.out).mono ?_); rintro e w3 hp; obtain ⟨rfl, V3, hs3⟩ := HS2.out.step HQ.out hp; have HS3 := am_ hs3; clear hp hs3))
        go_ret
        exact HS3.out.post
set_option maxHeartbeats 4000000 in
set_option maxRecDepth 100000 in
theorem findCatS (w0 w1 W : World) (gz : Nat) (s : ByteArray) (N : Nat) (X : List Rx) (C : List (List Int)) (b : Nat → Nat → Nat) (an aa am : Addr) (E : Nat → Nat → Nat → Bool) (V : Nat → Nat → Nat → Int) (lay : Lay w1 gz s N X C b an aa am) (n i j p q : Nat) (y z : Rx) (hx : X[n]? = some (.cat y z)) (hc : C[n]? = some [(p : Int), (q : Int)]) (hp : p < n) (hq : q < n) (hi : i ≤ j) (hj : j < N) (hN : N ≤ 1000) (hT : X.length ≤ 1000) (hok : OkV E V n) (hm : Ms w0 w1 W X.length N b V) (hk : KidS w0 w1 gz X.length N b E p (p : Int)) (hk2 : KidS w0 w1 gz X.length N b E q (q : Int)) (res : Bool)
    (hy : ∀ k, i ≤ k → k ≤ j → E p i k = true → E q k j = true → res = true) (hno : (∀ k, i ≤ k → k ≤ j → ¬ (E p i k = true ∧ E q k j = true)) → res = false) :
    FindAt w0 w1 W gz X.length N b E V n i j res := by
  have HS : Aside0 (Sf w0 w1 X.length N b E V n W V) := ⟨hok, Inv.refl, hm⟩
  have hn : n < X.length := (List.getElem?_eq_some_iff.mp hx).1
  obtain ⟨c1, z1⟩ := lay.z1
  obtain ⟨c2, z2⟩ := lay.z2
  obtain ⟨A, cc, a1, a2⟩ := lay.ak n _ hc
  obtain ⟨ad, rfl, a3⟩ := a2 0 _ rfl
  obtain ⟨ad2, he, a4⟩ := a2 1 _ rfl
  cases he
  rw [Addr.add_zero'] at a3
  rw [show ad.add 1 = ⟨ad.block, ad.off + 1, none⟩ from rfl] at a4
  have k1 := hm.get z1
  have k2 := hm.get z2
  have k3 := hm.get a1
  have k4 := hm.get (lay.nk n _ hx)
  have p1 : ((0 : Int) ≤ (n : Int)) = True := eq_true (by omega)
  have q1 : ((n : Int) < (X.length : Int)) = True := eq_true (by omega)
  have HKC := am_ (fun k W2 V2 (h : Sf w0 w1 X.length N b E V n W2 V2) (h1 : i ≤ k) (h2 : k ≤ j) => hk i k W2 V2 h1 (by omega) (h.oks hp) h.mem)
  have HKD := am_ (fun k W2 V2 (h : Sf w0 w1 X.length N b E V n W2 V2) (h2 : k ≤ j) => hk2 k j W2 V2 h2 hj (h.oks hq) h.mem)
  have HP := am_ hp
  have HQ := am_ hq
  have HA3 := am_ a3
  have HA4 := am_ a4
  have HY := am_ hy
  have HN := am_ hno
  have HIJ := am_ hi
  rw [show ([(p : Int), (q : Int)] : List Int).length = 2 from rfl] at k3
  rw [show kindOf (.cat y z) = 5 from rfl] at k4
  clear z1 z2 a1 a2 a3 a4 hc hok hm hk hp hk2 hq lay hi hy hno hx hn
  go_enter Try.func87, Try.ntmps87
  go_wp2
  go_loopg [10] (j + 2) (fun gg v10 w' => ∃ (k : Nat) (kz : Int) (V' : Nat → Nat → Nat → Int), v10 = .int .i64 kz ∧ Aside0 (kz = (k : Int)) ∧ Aside0 (i ≤ k ∧ k ≤ j + 1) ∧ Aside0 (j + 2 ≤ gg + k) ∧ Aside0 (∀ q', i ≤ q' → q' < k → ¬ (E p i q' = true ∧ E q q' j = true)) ∧ Aside0 (Sf w0 w1 X.length N b E V n w' V'))
  case atStart => exact ⟨i, (i : Int), V, rfl, ⟨rfl⟩, ⟨by have := HIJ.out; omega⟩, ⟨by omega⟩, ⟨fun q' a1 a2 => by omega⟩, HS⟩
  case round =>
    clear HS
    obtain ⟨k, kz, V', rfl, HKZ, HKK, HG, HNO, HS⟩ := hrel
    cases gk with
    | zero => exact absurd HG.out (by have := HKK.out; omega)
    | succ gk2 =>
    by_cases hkj : k ≤ j
    · have d1 : decide (kz ≤ (j : Int)) = true := decide_eq_true (by have := HKZ.out; omega)
      have d2 : (kz ≤ (j : Int)) = True := eq_true (by have := HKZ.out; omega)
      have hw : wrap64 (kz + 1) = ((k + 1 : Nat) : Int) := by rw [HKZ.out]; exact up1 (by omega)
      have HW := am_ hw
      have x5 := HS.out.mem.get HA3.out
      have hkc := HKC.out k _ _ HS.out HKK.out.1 hkj
      rw [← HKZ.out] at hkc
      have hkd := fun W2 V2 h => HKD.out k W2 V2 h hkj
      rw [← HKZ.out] at hkd
      have HCA := am_ hkc
      have HCB := am_ hkd
      have HNOT : Aside0 (E p i k = true → E q k j = true → res = true) := ⟨HY.out k HKK.out.1 hkj⟩
      have HNEXT : Aside0 (¬ (E p i k = true ∧ E q k j = true) → ∀ q', i ≤ q' → q' < k + 1 → ¬ (E p i q' = true ∧ E q q' j = true)) := ⟨fun hh q' a1 a2 => by
        by_cases eq : q' = k
        · rw [eq]; exact hh
        · exact HNO.out q' a1 (by omega)⟩
      generalize E p i k = ra at HCA HNOT HNEXT
      generalize E q k j = rb at HCB HNOT HNEXT
      have HKJ := am_ hkj
      clear hkc hkd hw hkj
      cases ra
      · go_wp2_with (go_at_call 77; (with_reducible refine HCA.out.mono ?_); rintro e w2 hp; obtain ⟨rfl, V2, hs2⟩ := HS.out.step HP.out hp; have HS2 := am_ hs2; have x9 := hs2.mem.get HA4.out; clear hp hs2)
        go_roundg gk2
        case measure => omega
        case rel => exact ⟨k + 1, wrap64 (kz + 1), V2, rfl, HW, ⟨by have := HKK.out; have := HKJ.out; omega⟩, ⟨by have := HG.out; omega⟩, ⟨HNEXT.out (by simp)⟩, HS2⟩
      · cases rb
        · go_wp2_with (first | (go_at_call 77; (with_reducible refine HCA.out.mono ?_); rintro e w2 hp; obtain ⟨rfl, V2, hs2⟩ := HS.out.step HP.out hp; have HS2 := am_ hs2; have x9 := hs2.mem.get HA4.out; clear hp hs2) | (go_at_call 77; (with_reducible refine (HCB.out _ _ HS2.out).mono ?_); rintro e w3 hp; obtain ⟨rfl, V3, hs3⟩ := HS2.out.step HQ.out hp; have HS3 := am_ hs3; clear hp hs3))
          go_roundg gk2
          case measure => omega
          case rel => exact ⟨k + 1, wrap64 (kz + 1), V3, rfl, HW, ⟨by have := HKK.out; have := HKJ.out; omega⟩, ⟨by have := HG.out; omega⟩, ⟨HNEXT.out (by simp)⟩, HS3⟩
        · have hres := HNOT.out rfl rfl
          subst hres
          go_wp2_with (first | (go_at_call 77; (with_reducible refine HCA.out.mono ?_); rintro e w2 hp; obtain ⟨rfl, V2, hs2⟩ := HS.out.step HP.out hp; have HS2 := am_ hs2; have x9 := hs2.mem.get HA4.out; clear hp hs2) | (go_at_call 77; (with_reducible refine (HCB.out _ _ HS2.out).mono ?_); rintro e w3 hp; obtain ⟨rfl, V3, hs3⟩ := HS2.out.step HQ.out hp; have HS3 := am_ hs3; clear hp hs3))
          go_ret
          exact HS3.out.post
    · have d1 : decide (kz ≤ (j : Int)) = false := decide_eq_false (by have := HKZ.out; omega)
      have d2 : (kz ≤ (j : Int)) = False := eq_false (by have := HKZ.out; omega)
      have hres := HN.out (fun q' a b => HNO.out q' a (by omega))
      subst hres
      go_wp2
      go_ret
      exact HS.out.post
def Tsf6 : Bool × List (List Nat × List Nat) := (true, [([], []), ([0], [0]), ([1], [1]), ([2], [2]), ([], []), ([], []), ([3, 4, 5], [3, 4, 5]), ([], []), ([7], [7]), ([8], [8]), ([9], [9]), ([], []), ([10, 11], [10, 11]), ([12], [12]), ([13], [13]), ([6, 14], [6, 14]), ([15, 0, 1, 2, 3, 4, 5, 6, 7, 8, 9, 10, 11, 12, 13, 14, 15], [15])])
def Bsf6 : List Nat := [0, 1, 3, 7, 0, 0, 63, 0, 128, 384, 896, 0, 3968, 8064, 16256, 32767, 65535]
theorem tabsf6 : rtab .any (opsOf Try.f87 6) = Tsf6 := by kernel_rfl
theorem bitssf6 : waitsOk Tsf6.2 Bsf6 = true := by kernel_rfl
set_option maxHeartbeats 4000000 in
set_option maxRecDepth 100000 in
theorem findLetterS (w0 w1 W : World) (gz : Nat) (s : ByteArray) (N : Nat) (X : List Rx) (C : List (List Int)) (b : Nat → Nat → Nat) (an aa am : Addr) (E : Nat → Nat → Nat → Bool) (V : Nat → Nat → Nat → Int) (lay : Lay w1 gz s N X C b an aa am) (n i j : Nat) (l : ByteArray) (c : List Int) (hx : X[n]? = some (.letter l)) (hc : C[n]? = some c) (hi : i ≤ j) (hj : j ≤ s.size) (hs : s.size ≤ 900) (hT : X.length ≤ 1000) (hok : OkV E V n) (hm : Ms w0 w1 W X.length N b V) :
    FindAt w0 w1 W gz X.length N b E V n i j (mt (bytesOf s) (.letter l) i j) := by
  have HS : Aside0 (Sf w0 w1 X.length N b E V n W V) := ⟨hok, Inv.refl, hm⟩
  have hn : n < X.length := (List.getElem?_eq_some_iff.mp hx).1
  obtain ⟨c1, z1⟩ := lay.z1
  obtain ⟨c2, z2⟩ := lay.z2
  obtain ⟨A, cc, a1, a2⟩ := lay.ak n c hc
  have k0 := hm.get lay.zs
  have k1 := hm.get z1
  have k2 := hm.get z2
  have k3 := hm.get a1
  have k4 := hm.get (lay.nk n _ hx)
  have k5 := hm.get (lay.nl n _ hx)
  rw [show kindOf (.letter l) = 3 from rfl] at k4
  have p1 : ((0 : Int) ≤ (n : Int)) = True := eq_true (by omega)
  have q1 : ((n : Int) < (X.length : Int)) = True := eq_true (by omega)
  have r1 : ((0 : Int) ≤ (i : Int)) = True := eq_true (by omega)
  have r2 : ((i : Int) ≤ (j : Int)) = True := eq_true (by omega)
  have r3 : ((j : Int) ≤ (s.size : Int)) = True := eq_true (by omega)
  have r4 : (i ≤ j) = True := eq_true hi
  have r5 : (j ≤ s.size) = True := eq_true hj
  have q1n : (n < X.length) = True := eq_true hn
  rw [mt_letter, show decide (s.extract i j = l) = ((s.extract i j).toList == l.toList) from by rw [Bool.eq_iff_iff, decide_eq_true_iff, beq_iff_eq, toList_iff]]
  clear z1 z2 a1 a2 lay hx hc hok hm hi hj hs hn
  go_enter Try.func87, Try.ntmps87
  go_wp2
  refine start_ (n := 17) (S := (fun w' => w'.cell? ⟨gz, 0, none⟩ = some (.string s) ∧ w'.cell? ⟨gz, 1, none⟩ = some (.slice (some an) X.length c1) ∧ w'.cell? ⟨(an.add (n * 3)).block, (an.add (n * 3)).off + 1, none⟩ = some (.string l))) (ds := []) (bl 17 0) (by kernel_rfl) rfl rfl (⟨k0, k1, k5⟩) (fun hHeld => ?_); refine with_tabW tabsf6 bitssf6 (fun HT_ HW_ => ?_)
  refine ph_ 0 33 (bl 17 1) HT_ ?_
  refine ph_ 1 34 (bl 17 3) HT_ ?_
  refine ph_ 2 35 (bl 17 7) HT_ ?_
  refine ph_ 4 37 (bl 17 23) HT_ ?_
  refine ph_ 5 38 (bl 17 55) HT_ ?_
  refine ph_ 7 40 (bl 17 183) HT_ ?_
  refine ph_ 8 41 (bl 17 439) HT_ ?_
  refine ph_ 9 42 (bl 17 951) HT_ ?_
  refine ph_ 11 44 (bl 17 2999) HT_ ?_
  refine th_ 3 36 (bl 17 3007) HT_ HW_ hHeld ?_
  refine ph_ 6 39 (bl 17 3071) HT_ ?_
  refine th_ 10 43 (bl 17 4095) HT_ HW_ hHeld ?_
  refine ph_ 12 45 (bl 17 8191) HT_ ?_
  refine ph_ 13 46 (bl 17 16383) HT_ ?_
  refine th_ 14 47 (bl 17 32767) HT_ HW_ hHeld ?_
  refine ph_ 15 48 (bl 17 65535) HT_ ?_
  refine ph_ 16 8 (bl 17 131071) HT_ ?_
  refine done_ (done_of HT_.out (by kernel_rfl)) ?_
  clear HT_ HW_ hHeld
  go_wp2
  go_ret
  exact (HS.out.below (below_drew1 (Below.refl _ _))).post
end Go.Proofs.Ytldgkgdgcfllmaa.Rg
end
section
namespace Go.Proofs.Ytldgkgdgcfllmaa.P
open Go.RowKit Go.Proofs.YtldgkgdgcfllmaaW.PrintWords Go.Proofs.YtldgkgdgcfllmaaW.PrintLast Go.Proofs.YtldgkgdgcfllmaaW.PrintMore
attribute [local go_sem] max2_int min2_int max_two min_two max_three min_three max_four min_four
set_option linter.unusedVariables false
set_option linter.unusedSimpArgs false
def laws_markText.l0 : Nat → Int → ByteArray → Option (ByteArray)
  | 0, _, _ => none
  | k + 1, x0, x3 => if x0 > 0 then ((some (([(wrap64 (48 + (Int.tmod x0 10))) % 256] : List Int) : List Int)).bind fun ad => (if (strOfNums ad).size + x3.size ≤ 9223372036854775807 then (laws_markText.l0 k (wrap64 (Int.tdiv x0 10)) ((strOfNums ad) ++ x3)) else (none))) else (if 1 + x3.size ≤ 9223372036854775807 then (some ((⟨#[109]⟩ : ByteArray) ++ x3)) else (none))
def laws_markText.f (k : Nat) (a0 : Int) : Option (ByteArray) := if a0 ≤ 0 then (some (⟨#[109, 48]⟩ : ByteArray)) else (laws_markText.l0 k a0 (⟨#[]⟩ : ByteArray))
theorem laws_markText.mono_l : ∀ k, (∀ y0 y1, LeO (laws_markText.l0 k y0 y1) (laws_markText.l0 (k + 1) y0 y1))
  | 0 => fun _ _ r h => by simp [laws_markText.l0] at h
  | k + 1 => by
    have ih0 := laws_markText.mono_l k
    · intro y0 y1
      unfold laws_markText.l0
      repeat' first
      | (with_reducible exact ih0 _ _)
      | (with_reducible exact LeO.refl _)
      | (with_reducible exact LeO.none _)
      | (with_reducible refine LeO.ite ?_ ?_)
      | (with_reducible refine LeO.bind ?_ (fun _ => ?_))
      | exact ih0 _ _
      | exact LeO.none _
      | refine LeO.ite ?_ ?_
      | refine LeO.bind ?_ (fun _ => ?_)
theorem laws_markText.mono : ∀ a0 k, LeO (laws_markText.f k a0) (laws_markText.f (k + 1) a0) := by
  intro a0 k
  have ih0 := laws_markText.mono_l k
  unfold laws_markText.f
  repeat' first
      | (with_reducible exact ih0 _ _)
      | (with_reducible exact LeO.refl _)
      | (with_reducible exact LeO.none _)
      | (with_reducible refine LeO.ite ?_ ?_)
      | (with_reducible refine LeO.bind ?_ (fun _ => ?_))
      | exact ih0 _ _
      | exact LeO.none _
      | refine LeO.ite ?_ ?_
      | refine LeO.bind ?_ (fun _ => ?_)
theorem zp23_0_ {p q : Prop} (h : p) (c : p → q := by intro h_; repeat (first | (with_reducible first | exact h_ | apply below_alloc | apply pw_below_drewN | apply below_drew1) | exact h_)) : q := c h
set_option maxHeartbeats 8000000 in
set_option maxRecDepth 100000 in
theorem laws_markText.calls (k : Nat) (a0 : Int) (r : ByteArray) (w : World) (h : laws_markText.f k a0 = some r) :
    Calls Try.prog 74 #[.int .i64 a0] w fun e w' => e = .returned (.string r) ∧ Below w.heap.size w w' := by
  have HB := am_ (Below.refl w.heap.size w)
  have H : (if a0 ≤ 0 then (some (⟨#[109, 48]⟩ : ByteArray)) else (laws_markText.l0 k a0 (⟨#[]⟩ : ByteArray))) = some r := h
  clear h
  by_cases c2 : a0 ≤ 0
  · rw [if_pos c2] at H
    have c2b0 : decide (a0 ≤ 0) = true := decide_eq_true c2
    clear c2
    obtain rfl := Option.some.inj H
    simp only [Option.some.injEq, Prod.mk.injEq] at H
    obtain ⟨rfl⟩ := H
    go_enter Try.func74, Try.ntmps74
    go_wp2
    go_ret
    exact ⟨by first | rfl | (simp [errW_none, errW_some] <;> rfl) | (simp [*, errW_none, errW_some] <;> rfl), by exact zp23_0_ HB.out⟩
  · rw [if_neg c2] at H
    have c2b0 : decide (a0 ≤ 0) = false := decide_eq_false c2
    clear c2
    have H' := am_ H
    clear H
    go_enter Try.func74, Try.ntmps74
    go_wp2
    go_loopg [0, 3] k (fun kq v0 v3 w' => ∃ (aa : Int) (ab : ByteArray), v0 = .int .i64 aa ∧ v3 = .string ab ∧ Aside0 (laws_markText.l0 kq aa ab = some r) ∧ Aside0 (kq ≤ k) ∧ Aside0 (Below w.heap.size w w'))
    case atStart => exact ⟨(a0), ((⟨#[]⟩ : ByteArray)), (by first | rfl | (simp; done) | (simp [*]; done)), (by first | rfl | (simp; done) | (simp [*]; done)), H', ⟨Nat.le_refl _⟩, ⟨by exact zp23_0_ HB.out⟩⟩
    case round =>
      clear H'
      try clear c2
      try clear c2b0
      try clear p2
      obtain ⟨aa, ab, rfl, rfl, HA, HK1, HB⟩ := hrel
      cases gk with
      | zero => exact absurd HA.out (by simp [laws_markText.l0])
      | succ k1 =>
        have H := HA.out
        clear HA
        simp only [laws_markText.l0] at H
        by_cases c3 : aa > 0
        · rw [if_pos c3] at H
          have c3b0 : decide (0 < aa) = true := decide_eq_true c3
          clear c3
          obtain ⟨ad, hy499⟩ : ∃ y_ : List Int, y_ = (([(wrap64 (48 + (Int.tmod aa 10))) % 256] : List Int)) := ⟨_, rfl⟩
          replace H : (if (strOfNums ad).size + ab.size ≤ 9223372036854775807 then (laws_markText.l0 k1 (wrap64 (Int.tdiv aa 10)) ((strOfNums ad) ++ ab)) else (none)) = some r := by first | (rw [hy499]; with_reducible exact H) | (have H2_ := (Option.bind_some _ _).symm.trans H; rw [hy499]; with_reducible exact H2_) | (have H2_ := (Option.bind_some _ _).symm.trans H; with_reducible exact H2_) | with_reducible exact H | (rw [hy499]; exact H) | exact H
          have ae := am_ hy499
          clear hy499
          by_cases c4 : (strOfNums ad).size + ab.size ≤ 9223372036854775807
          · rw [if_pos c4] at H
            have c4b0 := eq_true c4
            have c4b1 : decide ((strOfNums ad).size + ab.size ≤ 9223372036854775807) = true := decide_eq_true c4
            try have c4b2 : (9223372036854775807 < (strOfNums ad).size + ab.size) = False := eq_false (Nat.not_lt.2 c4)
            have H' := am_ H
            clear H
            go_wp2_with (first | ((with_reducible refine gate_dst (N := 12) rfl ?_); refine Kd.R_lit (Kd.int .u8) _ 5 ?hg (N := 12) ?hd (xs := ([(wrap64 (48 + (Int.tmod aa 10))) % 256] : List Int)) (inner := [.int .u8 ((wrap64 (48 + (Int.tmod aa 10))) % 256)]) (ok := fun _ => True) (okp := fun _ => True) ?hr ?hp (fun _ hk => hk) trivial (Below.refl _ _) (Nat.le_refl _) (by simp) ?_; (case hd => rfl); (case hg => rfl); (case hr => first | (go_simp; done) | (go_simp; rfl)); (case hp => exact (Reps.one (show Kd.M (Kd.int .u8) _ _ _ ((wrap64 (48 + (Int.tmod aa 10))) % 256) [.int .u8 ((wrap64 (48 + (Int.tmod aa 10))) % 256)] from rfl) (Reps.none _ _))); intro ag w5 ho6 hb hg_ hnew_; clear hg_ hnew_; (first | rw [← ae.out] at ho6 | (simp only [Int.reduceToNat] at ho6; rw [← ae.out] at ho6)); replace af := am_ (Kd.R_lower ho6 (below_size (b0_ HB.out))); replace HB := am_ (below_step (b0_ HB.out) hb); clear hb ho6; have hcv7 := own_string (P := Try.prog) Try.underlying42 Try.underlying5 Try.underlying9 (Kd.own_of_R af.out)))
            go_roundg k1
            case measure => have := HK1.out; omega
            case rel => exact ⟨(wrap64 (Int.tdiv aa 10)), ((strOfNums ad) ++ ab), (by first | rfl | (simp; done) | (simp [*]; done)), (by first | rfl | (simp; done) | (simp [*]; done)), H', ⟨by have := HK1.out; omega⟩, ⟨by exact zp23_0_ HB.out⟩⟩
          · rw [if_neg c4] at H
            exact absurd H (by simp)
        · rw [if_neg c3] at H
          have c3b0 : decide (0 < aa) = false := decide_eq_false c3
          clear c3
          by_cases c8 : 1 + ab.size ≤ 9223372036854775807
          · rw [if_pos c8] at H
            have c8b0 := eq_true c8
            have c8b1 : decide (1 + ab.size ≤ 9223372036854775807) = true := decide_eq_true c8
            try have c8b2 : (9223372036854775807 < 1 + ab.size) = False := eq_false (Nat.not_lt.2 c8)
            obtain rfl := Option.some.inj H
            simp only [Option.some.injEq, Prod.mk.injEq] at H
            obtain ⟨rfl⟩ := H
            go_wp2
            go_ret
            exact ⟨by first | rfl | (simp [errW_none, errW_some] <;> rfl) | (simp [*, errW_none, errW_some] <;> rfl), by exact zp23_0_ HB.out⟩
          · rw [if_neg c8] at H
            exact absurd H (by simp)
def spec_l1Bit.f (a0 : Bool) : Option (Int) := if a0 = true then (some 1) else (some 0)
set_option maxHeartbeats 8000000 in
set_option maxRecDepth 100000 in
theorem spec_l1Bit.calls (a0 : Bool) (r : Int) (w : World) (h : spec_l1Bit.f a0 = some r) :
    Calls Try.prog 86 #[.bool a0] w fun e w' => e = .returned (.int .i64 r) ∧ Drawn0 w w' := by
  have H : (if a0 = true then (some 1) else (some 0)) = some r := h
  clear h
  by_cases c2 : a0 = true
  · subst c2
    have H1 : (some 1) = some r := by rw [if_pos rfl] at H; exact H
    clear H
    have H := H1
    clear H1
    obtain rfl := Option.some.inj H
    simp only [Option.some.injEq, Prod.mk.injEq] at H
    obtain ⟨rfl⟩ := H
    go_enter Try.func86, Try.ntmps86
    go_wp2
    go_ret
    exact ⟨by first | rfl | (simp; done) | (simp [*]; done), by repeat (first | exact Drawn0.refl _ | apply Drawn0.step)⟩
  · replace c2 := Bool.eq_false_iff.mpr c2
    subst c2
    have H1 : (some 0) = some r := by rw [if_neg (show ¬ (false = true) by decide)] at H; exact H
    clear H
    have H := H1
    clear H1
    obtain rfl := Option.some.inj H
    simp only [Option.some.injEq, Prod.mk.injEq] at H
    obtain ⟨rfl⟩ := H
    go_enter Try.func86, Try.ntmps86
    go_wp2
    go_ret
    exact ⟨by first | rfl | (simp; done) | (simp [*]; done), by repeat (first | exact Drawn0.refl _ | apply Drawn0.step)⟩
end Go.Proofs.Ytldgkgdgcfllmaa.P
end
