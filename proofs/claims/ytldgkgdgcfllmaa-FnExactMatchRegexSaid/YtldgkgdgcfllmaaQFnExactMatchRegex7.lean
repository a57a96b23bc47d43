/- Texts of the proof of FnExactMatchRegex, put together. No condition. -/
import Derived.Shelf.Abstract
import Derived.Lib.Walk
import Derived.Test.YtldgkgdgcfllmaaQFnExactMatchRegex6
import Derived.Test.YtldgkgdgcfllmaaQFnExactMatchRegex2
import Derived.Laws.MakeOwn
import Derived.Test.YtldgkgdgcfllmaaQFnExactMatchRegex3
import Derived.Test.YtldgkgdgcfllmaaQFnExactMatchRegex4
section
namespace Go.Proofs.Ytldgkgdgcfllmaa.Rg
open Go.RowKit Go.Shelf Go.Proofs.Ytldgkgdgcfllmaa.P Go.Proofs.Ytldgkgdgcfllmaa.Pl Go.Proofs.YtldgkgdgcfllmaaW.PrintWords Go.Proofs.YtldgkgdgcfllmaaW.PrintLast Go.Proofs.YtldgkgdgcfllmaaW.PrintMore
set_option linter.unusedVariables false
set_option linter.unusedSimpArgs false
def sons : Rx → List Rx
  | .cat x y => [x, y]
  | .or x y => [x, y]
  | .and x y => [x, y]
  | .star x => [x]
  | .not x => [x]
  | _ => []
def pnl (ys : List Rx) : List Rx := ys.flatMap pn
def pcl : List Rx → Nat → List (List Int)
  | [], _ => []
  | y :: t, b => pcs y b ++ pcl t (b + sz y)
def nml : List Rx → Nat → List Int
  | [], _ => []
  | y :: t, b => ((b + sz y - 1 : Nat) : Int) :: nml t (b + sz y)
def szl : List Rx → Nat
  | [] => 0
  | y :: t => sz y + szl t
theorem pn_kids (x : Rx) : pn x = pnl (sons x) ++ [x] := by cases x <;> simp [pn, pnl, sons]
theorem pcs_kids (x : Rx) (b : Nat) : pcs x b = pcl (sons x) b ++ [nml (sons x) b] := by cases x <;> simp [pcs, pcl, nml, sons]
theorem sz_kids (x : Rx) : sz x = szl (sons x) + 1 := by cases x <;> simp only [sz, szl, sons] <;> omega
theorem pnl_len (ys : List Rx) : (pnl ys).length = szl ys := by
  induction ys with
  | nil => rfl
  | cons y t ih => simp only [pnl, szl, List.flatMap_cons, List.length_append, pn_len] at ih ⊢; rw [ih]
theorem pnl_snoc (ys : List Rx) (y : Rx) : pnl (ys ++ [y]) = pnl ys ++ pn y := by simp [pnl]
theorem pcl_snoc (ys : List Rx) (y : Rx) : ∀ b, pcl (ys ++ [y]) b = pcl ys b ++ pcs y (b + szl ys) := by
  induction ys with
  | nil => intro b; simp [pcl, szl]
  | cons z t ih => intro b; simp only [List.cons_append, pcl, ih, szl, List.append_assoc, Nat.add_assoc]
theorem nml_snoc (ys : List Rx) (y : Rx) : ∀ b, nml (ys ++ [y]) b = nml ys b ++ [((b + szl ys + sz y - 1 : Nat) : Int)] := by
  induction ys with
  | nil => intro b; simp [nml, szl]
  | cons z t ih => intro b; simp only [List.cons_append, nml, ih, szl, Nat.add_assoc]
theorem Ax.kids {r : Tr} {x : Rx} (h : Ax r x) : r.f0 = kindOf x ∧ (∀ c, x = .letter c → r.f1 = c) ∧ r.f2.length = (sons x).length ∧ ∀ (k : Nat) (y : Rx), (sons x)[k]? = some y → Ax (rd_T29 r.f2 (k : Int)) y := by
  cases h with
  | none l => exact ⟨rfl, fun c h => (by cases h), rfl, fun k y h => (by simp [sons] at h)⟩
  | empty l => exact ⟨rfl, fun c h => (by cases h), rfl, fun k y h => (by simp [sons] at h)⟩
  | any l => exact ⟨rfl, fun c h => (by cases h), rfl, fun k y h => (by simp [sons] at h)⟩
  | letter l => exact ⟨rfl, fun c h => (by cases h; rfl), rfl, fun k y h => (by simp [sons] at h)⟩
  | star l ha => exact ⟨rfl, fun c h => (by cases h), rfl, fun k y h => by
      match k, h with
      | 0, h => cases h; exact ha⟩
  | not l ha => exact ⟨rfl, fun c h => (by cases h), rfl, fun k y h => by
      match k, h with
      | 0, h => cases h; exact ha⟩
  | cat l ha hb => exact ⟨rfl, fun c h => (by cases h), rfl, fun k y h => by
      match k, h with
      | 0, h => cases h; exact ha
      | 1, h => cases h; exact hb⟩
  | or l ha hb => exact ⟨rfl, fun c h => (by cases h), rfl, fun k y h => by
      match k, h with
      | 0, h => cases h; exact ha
      | 1, h => cases h; exact hb⟩
  | and l ha hb => exact ⟨rfl, fun c h => (by cases h), rfl, fun k y h => by
      match k, h with
      | 0, h => cases h; exact ha
      | 1, h => cases h; exact hb⟩
structure Bd (w0 W : World) (gz : Nat) (s : ByteArray) (N : Nat) (X : List Rx) (C : List (List Int)) (T : Nat) (b : Nat → Nat → Nat) (vn va vm : Value) (NC AC MC : List Value) (ok : Nat → Prop) : Prop where
  box : W.heap[gz]? = some (.cells #[.string s, vn, va, vm] 83 (0, 0))
  og : ok gz ∧ w0.heap.size ≤ gz
  nod : W.ownsRow w0.heap.size 29 3 vn X.length NC
  arg : W.ownsRow w0.heap.size 96 1 va C.length AC
  mem : W.ownsRow w0.heap.size 80 1 vm T MC
  on : ∀ k, vn.ownBlock = some k → ok k
  oa : ∀ k, va.ownBlock = some k → ok k
  om : ∀ k, vm.ownBlock = some k → ok k
  nc : ∀ (n : Nat) (x : Rx), X[n]? = some x → NC[n * 3]? = some (.int .i64 (kindOf x)) ∧ ∀ c, x = .letter c → NC[n * 3 + 1]? = some (.string c)
  ac : ∀ (n : Nat) (c : List Int), C[n]? = some c → ∃ v, AC[n]? = some v ∧ W.ownsRow w0.heap.size 3 1 v c.length (nums .i64 c) ∧ ∀ k, v.ownBlock = some k → ok k ∧ ∀ n i, n < T → i < N → k ≠ b n i
  mc : ∀ n, n < T → ∃ t cc cur, MC[n]? = some (.slice (some ⟨t, 0, none⟩) N cc) ∧ W.heap[t]? = some (.cells cur 96 (0, 0)) ∧ (∀ i, i < N → cur[i]? = some (.slice (some ⟨b n i, 0, none⟩) N N)) ∧ ok t ∧ some t ≠ va.ownBlock
  rows : ∀ n i, n < T → i < N → W.heap[b n i]? = some (.cells (encf N (fun _ => 0)) 3 (0, 0)) ∧ ok (b n i) ∧ w0.heap.size ≤ b n i
  inj : ∀ n i n' i', n < T → i < N → n' < T → i' < N → b n i = b n' i' → n = n' ∧ i = i'
  bel : Below w0.heap.size w0 W
def Bdx (w0 W : World) (gz : Nat) (s : ByteArray) (N : Nat) (X : List Rx) (C : List (List Int)) (T : Nat) (ok : Nat → Prop) : Prop := ∃ b vn va vm NC AC MC, Bd w0 W gz s N X C T b vn va vm NC AC MC ok
section
variable {w0 W W' : World} {gz : Nat} {s : ByteArray} {N T : Nat} {X : List Rx} {C : List (List Int)} {b : Nat → Nat → Nat} {vn va vm : Value} {NC AC MC : List Value} {ok ok' : Nat → Prop}
theorem Bd.step (h : Bd w0 W gz s N X C T b vn va vm NC AC MC ok) (hm : ∀ k, ok k → k < W.heap.size → W'.heap[k]? = W.heap[k]?) (hb : Below w0.heap.size w0 W') : Bd w0 W' gz s N X C T b vn va vm NC AC MC (fun k => ok k ∧ k < W.heap.size) := by
  have mv : ∀ {e size n : Nat} {v : Value} {xs : List Value}, W.ownsRow w0.heap.size e size v n xs → (∀ k, v.ownBlock = some k → ok k) → W'.ownsRow w0.heap.size e size v n xs ∧ ∀ k, v.ownBlock = some k → ok k ∧ k < W.heap.size := fun ho hk =>
    ⟨own_move ho (fun k h2 => hm k (hk k h2) (own_lt ho k h2)), fun k h2 => ⟨hk k h2, own_lt ho k h2⟩⟩
  have mb : ∀ {k : Nat} {o : Obj}, W.heap[k]? = some o → ok k → W'.heap[k]? = some o ∧ ok k ∧ k < W.heap.size := fun ho hk => by
    have := blk_lt ho
    exact ⟨(hm _ hk this).trans ho, hk, this⟩
  refine ⟨(mb h.box h.og.1).1, ⟨(mb h.box h.og.1).2, h.og.2⟩, (mv h.nod h.on).1, (mv h.arg h.oa).1, (mv h.mem h.om).1, (mv h.nod h.on).2, (mv h.arg h.oa).2, (mv h.mem h.om).2, h.nc, fun n c hc => ?_, fun n hn => ?_, fun n i hn hi => ?_, h.inj, hb⟩
  · obtain ⟨v, h1, h2, h3⟩ := h.ac n c hc
    have := mv h2 (fun k hk => (h3 k hk).1)
    exact ⟨v, h1, this.1, fun k hk => ⟨this.2 k hk, (h3 k hk).2⟩⟩
  · obtain ⟨t, cc, cur, h1, h2, h3, h4, h5⟩ := h.mc n hn
    have := mb h2 h4
    exact ⟨t, cc, cur, h1, this.1, h3, this.2, h5⟩
  · obtain ⟨h1, h2, h3⟩ := h.rows n i hn hi
    have := mb h1 h2
    exact ⟨this.1, this.2, h3⟩
theorem Bd.mono (h : Bd w0 W gz s N X C T b vn va vm NC AC MC ok) (hk : ∀ k, ok k → ok' k) : Bd w0 W gz s N X C T b vn va vm NC AC MC ok' :=
  ⟨h.box, ⟨hk _ h.og.1, h.og.2⟩, h.nod, h.arg, h.mem, fun k e => hk _ (h.on k e), fun k e => hk _ (h.oa k e), fun k e => hk _ (h.om k e), h.nc, fun n c hc => by
    obtain ⟨v, h1, h2, h3⟩ := h.ac n c hc
    exact ⟨v, h1, h2, fun k e => ⟨hk _ (h3 k e).1, (h3 k e).2⟩⟩, fun n hn => by
    obtain ⟨t, cc, cur, h1, h2, h3, h4, h5⟩ := h.mc n hn
    exact ⟨t, cc, cur, h1, h2, h3, hk _ h4, h5⟩, fun n i hn hi => by
    obtain ⟨h1, h2, h3⟩ := h.rows n i hn hi
    exact ⟨h1, hk _ h2, h3⟩, h.inj, h.bel⟩
theorem Bd.below (h : Bd w0 W gz s N X C T b vn va vm NC AC MC ok) (hb : Below W.heap.size W W') : Bd w0 W' gz s N X C T b vn va vm NC AC MC (fun k => ok k ∧ k < W.heap.size) := h.step (fun k _ hk => hb.block k hk) (below_then h.bel h.bel.size hb)
theorem Bdx.step (h : Bdx w0 W gz s N X C T ok) (hm : ∀ k, ok k → k < W.heap.size → W'.heap[k]? = W.heap[k]?) (hb : Below w0.heap.size w0 W') : Bdx w0 W' gz s N X C T (fun k => ok k ∧ k < W.heap.size) := by
  obtain ⟨b, vn, va, vm, NC, AC, MC, h⟩ := h
  exact ⟨b, vn, va, vm, NC, AC, MC, h.step hm hb⟩
theorem Bdx.mono (h : Bdx w0 W gz s N X C T ok) (hk : ∀ k, ok k → ok' k) : Bdx w0 W gz s N X C T ok' := by
  obtain ⟨b, vn, va, vm, NC, AC, MC, h⟩ := h
  exact ⟨b, vn, va, vm, NC, AC, MC, h.mono hk⟩
theorem Bdx.bel (h : Bdx w0 W gz s N X C T ok) : Below w0.heap.size w0 W := by
  obtain ⟨b, vn, va, vm, NC, AC, MC, h⟩ := h
  exact h.bel
end
def PostA (w0 W : World) (gz : Nat) (s : ByteArray) (N : Nat) (X : List Rx) (C : List (List Int)) (ok : Nat → Prop) (y : Rx) (e : Ending) (W' : World) : Prop :=
  e = .returned (.int .i64 ((X.length + sz y - 1 : Nat) : Int)) ∧ Bdx w0 W' gz s N (X ++ pn y) (C ++ pcs y X.length) (X.length + sz y) (fun k => ok k ∨ W.heap.size ≤ k) ∧ (∀ k, k < W.heap.size → ¬ ok k → W'.heap[k]? = W.heap[k]?) ∧ W.heap.size ≤ W'.heap.size
structure P1 (w0 W0 W : World) (ok0 ok1 : Nat → Prop) (gz gb : Nat) (bx : Array Value) (s : ByteArray) (N : Nat) (X : List Rx) (C : List (List Int)) (v5 : Value) (a1 : List Int) : Prop where
  bd : Bdx w0 W gz s N X C X.length ok1
  row : W.ownsRow w0.heap.size 3 1 v5 a1.length (nums .i64 a1)
  rno : ∀ k, v5.ownBlock = some k → ¬ ok1 k ∧ k ≠ gb
  box : W.heap[gb]? = some (.cells bx 29 (0, 0))
  bno : ¬ ok1 gb
  fr : ∀ k, k < W0.heap.size → ¬ ok0 k → W.heap[k]? = W0.heap[k]?
  sub : ∀ k, ok1 k → ok0 k ∨ W0.heap.size ≤ k
  rge : ∀ k, v5.ownBlock = some k → W0.heap.size ≤ k
  sz : W0.heap.size ≤ W.heap.size
  gge : W0.heap.size ≤ gb
section
variable {w0 W0 W W' : World} {ok0 ok1 : Nat → Prop} {gz gb : Nat} {bx : Array Value} {s : ByteArray} {N : Nat} {X : List Rx} {C : List (List Int)} {v5 v' : Value} {a1 : List Int} {y : Rx} {e : Ending} {q : Int}
theorem P1.child (h : P1 w0 W0 W ok0 ok1 gz gb bx s N X C v5 a1) (p : PostA w0 W gz s N X C ok1 y e W') : e = .returned (.int .i64 ((X.length + Rg.sz y - 1 : Nat) : Int)) ∧ P1 w0 W0 W' ok0 (fun k => ok1 k ∨ W.heap.size ≤ k) gz gb bx s N (X ++ pn y) (C ++ pcs y X.length) v5 a1 := by
  obtain ⟨he, hb, hf, hs⟩ := p
  have lb := blk_lt h.box
  refine ⟨he, by rw [List.length_append, pn_len]; exact hb, own_move h.row (fun k hk => hf k (own_lt h.row k hk) (h.rno k hk).1), fun k hk => ⟨?_, (h.rno k hk).2⟩, (hf gb lb h.bno).trans h.box, ?_, fun k hk hn => ?_, fun k hk => ?_, h.rge, Nat.le_trans h.sz hs, h.gge⟩
  · rintro (a | a)
    · exact (h.rno k hk).1 a
    · have := own_lt h.row k hk; omega
  · rintro (a | a)
    · exact h.bno a
    · omega
  · refine (hf k (Nat.lt_of_lt_of_le hk h.sz) (fun a => ?_)).trans (h.fr k hk hn)
    rcases h.sub k a with a | a
    · exact hn a
    · omega
  · rcases hk with a | a
    · exact h.sub k a
    · exact Or.inr (Nat.le_trans h.sz a)
theorem P1.append (h : P1 w0 W0 W ok0 ok1 gz gb bx s N X C v5 a1) (ho : W'.ownsRow w0.heap.size 3 1 v' (a1.length + 1) (nums .i64 a1 ++ [.int .i64 q])) (hb : Below w0.heap.size w0 W') (hg : W.grownBy W' v5.ownBlock) (hat : v'.ownBlock = v5.ownBlock ∨ ∃ k, v'.ownBlock = some k ∧ W.heap.size ≤ k) :
    P1 w0 W0 W' ok0 (fun k => ok1 k ∧ k < W.heap.size) gz gb bx s N X C v' (a1 ++ [q]) := by
  have lb := blk_lt h.box
  refine ⟨h.bd.step (fun k hk hlt => hg.block k hlt (fun e => (h.rno k e.symm).1 hk)) hb, by rw [List.length_append, List.length_singleton, show nums .i64 (a1 ++ [q]) = nums .i64 a1 ++ [.int .i64 q] by simp [nums]]; exact ho, fun k hk => ?_, (hg.block gb lb (fun e => (h.rno gb e.symm).2 rfl)).trans h.box, fun a => h.bno a.1, fun k hk hn => ?_, fun k hk => h.sub k hk.1, fun k hk => ?_, Nat.le_trans h.sz hg.size, h.gge⟩
  · rcases hat with a | ⟨k2, a, a2⟩
    · rw [a] at hk; exact ⟨fun c => (h.rno k hk).1 c.1, (h.rno k hk).2⟩
    · rw [a] at hk; cases hk; exact ⟨fun c => by omega, by omega⟩
  · refine (hg.block k (Nat.lt_of_lt_of_le hk h.sz) (fun e => ?_)).trans (h.fr k hk hn)
    have := h.rge k e.symm
    omega
  · rcases hat with a | ⟨k2, a, a2⟩
    · rw [a] at hk; exact h.rge k hk
    · rw [a] at hk; cases hk; exact Nat.le_trans h.sz a2
theorem P1.below (h : P1 w0 W0 W ok0 ok1 gz gb bx s N X C v5 a1) (hb : Below W.heap.size W W') : P1 w0 W0 W' ok0 (fun k => ok1 k ∧ k < W.heap.size) gz gb bx s N X C v5 a1 := by
  have lb := blk_lt h.box
  have hbb := h.bd.bel
  exact ⟨h.bd.step (fun k _ hlt => hb.block k hlt) (below_then hbb hbb.size hb), own_move h.row (fun k hk => hb.block k (own_lt h.row k hk)), fun k hk => ⟨fun c => (h.rno k hk).1 c.1, (h.rno k hk).2⟩, (hb.block gb lb).trans h.box, fun a => h.bno a.1, fun k hk hn => (hb.block k (Nat.lt_of_lt_of_le hk h.sz)).trans (h.fr k hk hn), fun k hk => h.sub k hk.1, h.rge, Nat.le_trans h.sz hb.size, h.gge⟩
end
section
variable {w0 W0 W W' : World} {ok0 ok1 : Nat → Prop} {gz gb : Nat} {bx : Array Value} {s : ByteArray} {N : Nat} {X : List Rx} {C : List (List Int)} {v5 v7 v' : Value} {a1 : List Int} {m r : Nat} {g : Nat → Nat} {TC : List Value} {row : Option Nat}
theorem P1.other (h : P1 w0 W0 W ok0 ok1 gz gb bx s N X C v5 a1) (hg : W.grownBy W' row) (hrow : ∀ k, row = some k → ¬ ok1 k ∧ k ≠ gb ∧ some k ≠ v5.ownBlock ∧ W0.heap.size ≤ k) (hb : Below w0.heap.size w0 W') : P1 w0 W0 W' ok0 (fun k => ok1 k ∧ k < W.heap.size) gz gb bx s N X C v5 a1 := by
  have lb := blk_lt h.box
  refine ⟨h.bd.step (fun k hk hlt => hg.block k hlt (fun e => (hrow k e.symm).1 hk)) hb, own_move h.row (fun k hk => hg.block k (own_lt h.row k hk) (fun e => (hrow k e.symm).2.2.1 hk.symm)), fun k hk => ⟨fun c => (h.rno k hk).1 c.1, (h.rno k hk).2⟩, (hg.block gb lb (fun e => (hrow gb e.symm).2.1 rfl)).trans h.box, fun a => h.bno a.1, fun k hk hn => (hg.block k (Nat.lt_of_lt_of_le hk h.sz) (fun e => ?_)).trans (h.fr k hk hn), fun k hk => h.sub k hk.1, h.rge, Nat.le_trans h.sz hg.size, h.gge⟩
  have := (hrow k e.symm).2.2.2
  omega
structure P2 (w0 W0 W : World) (ok0 ok1 : Nat → Prop) (gz gb : Nat) (bx : Array Value) (s : ByteArray) (N : Nat) (X : List Rx) (C : List (List Int)) (v5 : Value) (a1 : List Int) (v7 : Value) (m : Nat) (g : Nat → Nat) (TC : List Value) : Prop where
  p1 : P1 w0 W0 W ok0 ok1 gz gb bx s N X C v5 a1
  tab : W.ownsRow w0.heap.size 96 1 v7 m TC
  tc : ∀ i, i < m → TC[i]? = some (.slice (some ⟨g i, 0, none⟩) N N)
  rows : ∀ i, i < m → W.heap[g i]? = some (.cells (encf N (fun _ => 0)) 3 (0, 0)) ∧ ¬ ok1 (g i) ∧ some (g i) ≠ v5.ownBlock ∧ g i ≠ gb ∧ W0.heap.size ≤ g i ∧ w0.heap.size ≤ g i
  inj : ∀ i j, i < m → j < m → g i = g j → i = j
  tno : ∀ k, v7.ownBlock = some k → ¬ ok1 k ∧ k ≠ gb ∧ some k ≠ v5.ownBlock ∧ W0.heap.size ≤ k
theorem P2.below (h : P2 w0 W0 W ok0 ok1 gz gb bx s N X C v5 a1 v7 m g TC) (hb : Below W.heap.size W W') : P2 w0 W0 W' ok0 (fun k => ok1 k ∧ k < W.heap.size) gz gb bx s N X C v5 a1 v7 m g TC :=
  ⟨h.p1.below hb, own_move h.tab (fun k hk => hb.block k (own_lt h.tab k hk)), h.tc, fun i hi => by
    obtain ⟨a, a2, a3, a4, a5, a6⟩ := h.rows i hi
    exact ⟨blk_below a hb, fun c => a2 c.1, a3, a4, a5, a6⟩, h.inj, fun k hk => by
    obtain ⟨a, a2, a3, a4⟩ := h.tno k hk
    exact ⟨fun c => a c.1, a2, a3, a4⟩⟩
theorem P2.append (h : P2 w0 W0 W ok0 ok1 gz gb bx s N X C v5 a1 v7 m g TC) (hr : W.heap[r]? = some (.cells (encf N (fun _ => 0)) 3 (0, 0))) (hrn : ¬ ok1 r ∧ some r ≠ v5.ownBlock ∧ r ≠ gb ∧ W0.heap.size ≤ r ∧ w0.heap.size ≤ r) (hrg : ∀ i, i < m → g i ≠ r)
    (ho : W'.ownsRow w0.heap.size 96 1 v' (m + 1) (TC ++ [.slice (some ⟨r, 0, none⟩) N N])) (hb : Below w0.heap.size w0 W') (hg : W.grownBy W' v7.ownBlock) (hat : v'.ownBlock = v7.ownBlock ∨ ∃ k, v'.ownBlock = some k ∧ W.heap.size ≤ k) :
    P2 w0 W0 W' ok0 (fun k => ok1 k ∧ k < W.heap.size) gz gb bx s N X C v5 a1 v' (m + 1) (fun i => if i = m then r else g i) (TC ++ [.slice (some ⟨r, 0, none⟩) N N]) := by
  have htl : TC.length = m := by have := h.tab.1; omega
  have keep : ∀ {k : Nat} {c : Array Value}, W.heap[k]? = some (.cells c 3 (0, 0)) → W'.heap[k]? = some (.cells c 3 (0, 0)) := fun hk => by
    refine (hg.block _ (blk_lt hk) (fun e => ?_)).trans hk
    obtain ⟨c2, h2⟩ := own_typed h.tab _ e.symm
    exact blk_ne h2 hk (by decide) rfl
  refine ⟨h.p1.other hg h.tno hb, ho, fun i hi => ?_, fun i hi => ?_, fun i j hi hj e => ?_, fun k hk => ?_⟩
  · by_cases q : i = m
    · subst q
      rw [List.getElem?_append_right (by omega), htl, Nat.sub_self, if_pos rfl]
      rfl
    · rw [List.getElem?_append_left (by omega), if_neg q]
      exact h.tc i (by omega)
  · by_cases q : i = m
    · rw [if_pos q]
      exact ⟨keep hr, fun c => hrn.1 c.1, hrn.2⟩
    · rw [if_neg q]
      obtain ⟨a, a2, a3⟩ := h.rows i (by omega)
      exact ⟨keep a, fun c => a2 c.1, a3⟩
  · by_cases q : i = m <;> by_cases q2 : j = m
    · omega
    · rw [if_pos q, if_neg q2] at e; exact absurd e.symm (hrg j (by omega))
    · rw [if_neg q, if_pos q2] at e; exact absurd e (hrg i (by omega))
    · rw [if_neg q, if_neg q2] at e; exact h.inj i j (by omega) (by omega) e
  · rcases hat with a | ⟨k2, a, a2⟩
    · rw [a] at hk
      obtain ⟨b1, b2, b3, b4⟩ := h.tno k hk
      exact ⟨fun c => b1 c.1, b2, b3, b4⟩
    · rw [a] at hk
      cases hk
      refine ⟨fun c => by omega, fun e => by have := blk_lt h.p1.box; omega, fun e => by have := own_lt h.p1.row _ e.symm; omega, Nat.le_trans h.p1.sz a2⟩
end
section
variable {w0 W W' : World} {gz : Nat} {s : ByteArray} {N T : Nat} {X : List Rx} {C : List (List Int)} {b : Nat → Nat → Nat} {vn va vm v1 : Value} {NC AC MC : List Value} {ok : Nat → Prop}
theorem own_type {w : World} {base n size : Nat} {e : TypeId} {v : Value} {xs : List Value} (h : w.ownsRow base e size v n xs) {k : Nat} {t : TypeId} {c : Array Value} (hk : w.heap[k]? = some (.cells c t (0, 0))) (hne : e ≠ t) : some k ≠ v.ownBlock := fun e2 => by
  obtain ⟨c2, h2⟩ := own_typed h k e2.symm
  exact blk_ne h2 hk hne rfl
theorem Bd.node (h : Bd w0 W gz s N X C T b vn va vm NC AC MC ok) {x : Rx} {f1 : ByteArray} {u2 : Value} (hx : ∀ c, x = .letter c → f1 = c)
    (hs : ∀ k, k < W.heap.size → some k ≠ vn.ownBlock → k ≠ gz → W'.heap[k]? = W.heap[k]?) (ho : W'.ownsRow w0.heap.size 29 3 v1 (X.length + 1) (NC ++ [.int .i64 (kindOf x), .string f1, u2]))
    (hbox : W'.heap[gz]? = some (.cells #[.string s, v1, va, vm] 83 (0, 0))) (hb : Below w0.heap.size w0 W') :
    Bd w0 W' gz s N (X ++ [x]) C T b v1 va vm (NC ++ [.int .i64 (kindOf x), .string f1, u2]) AC MC (fun k => ok k ∨ some k = v1.ownBlock) := by
  have hl : NC.length = X.length * 3 := h.nod.1
  have kb : ∀ {k : Nat} {t : TypeId} {c : Array Value}, W.heap[k]? = some (.cells c t (0, 0)) → 29 ≠ t → 83 ≠ t → W'.heap[k]? = some (.cells c t (0, 0)) := fun hk n1 n2 =>
    (hs _ (blk_lt hk) (own_type h.nod hk n1) (fun e => by subst e; exact blk_ne h.box hk n2 rfl)).trans hk
  have kr : ∀ {e size n : Nat} {v : Value} {xs : List Value}, W.ownsRow w0.heap.size e size v n xs → 29 ≠ e → 83 ≠ e → W'.ownsRow w0.heap.size e size v n xs := fun hr n1 n2 => own_move hr (fun k hk => by
    obtain ⟨c, hc⟩ := own_typed hr k hk
    exact (kb hc n1 n2).trans hc.symm)
  refine ⟨hbox, ⟨Or.inl h.og.1, h.og.2⟩, by rw [List.length_append]; exact ho, kr h.arg (by decide) (by decide), kr h.mem (by decide) (by decide), fun k hk => Or.inr hk.symm, fun k hk => Or.inl (h.oa k hk), fun k hk => Or.inl (h.om k hk), fun n y hy => ?_, fun n c hc => ?_, fun n hn => ?_, fun n i hn hi => ?_, h.inj, hb⟩
  · by_cases hn : n < X.length
    · rw [List.getElem?_append_left hn] at hy
      obtain ⟨a, a2⟩ := h.nc n y hy
      rw [List.getElem?_append_left (by omega)]
      exact ⟨a, fun c hc => by rw [List.getElem?_append_left (by omega)]; exact a2 c hc⟩
    · have hn2 := (List.getElem?_eq_some_iff.mp hy).1
      simp only [List.length_append, List.length_cons, List.length_nil] at hn2
      have e : n = X.length := by omega
      subst e
      rw [List.getElem?_append_right (Nat.le_refl _), Nat.sub_self] at hy
      cases hy
      rw [List.getElem?_append_right (by omega), List.getElem?_append_right (by omega), hl, Nat.sub_self, show X.length * 3 + 1 - X.length * 3 = 1 by omega]
      exact ⟨rfl, fun c hc => by rw [← hx c hc]; rfl⟩
  · obtain ⟨v, a1, a2, a3⟩ := h.ac n c hc
    exact ⟨v, a1, kr a2 (by decide) (by decide), fun k hk => ⟨Or.inl (a3 k hk).1, (a3 k hk).2⟩⟩
  · obtain ⟨t, cc, cur, a1, a2, a3, a4, a5⟩ := h.mc n hn
    exact ⟨t, cc, cur, a1, kb a2 (by decide) (by decide), a3, Or.inl a4, a5⟩
  · obtain ⟨a1, a2, a3⟩ := h.rows n i hn hi
    exact ⟨kb a1 (by decide) (by decide), Or.inl a2, a3⟩
theorem Bd.args (h : Bd w0 W gz s N X C T b vn va vm NC AC MC ok) {c1 : List Int} {v5 : Value}
    (hs : ∀ k, k < W.heap.size → some k ≠ va.ownBlock → k ≠ gz → W'.heap[k]? = W.heap[k]?) (hat : v1.ownBlock = va.ownBlock ∨ ∃ k, v1.ownBlock = some k ∧ W.heap.size ≤ k) (ho : W'.ownsRow w0.heap.size 96 1 v1 (C.length + 1) (AC ++ [v5]))
    (h5 : W.ownsRow w0.heap.size 3 1 v5 c1.length (nums .i64 c1)) (h5n : ∀ k, v5.ownBlock = some k → ¬ ok k)
    (hbox : W'.heap[gz]? = some (.cells #[.string s, vn, v1, vm] 83 (0, 0))) (hb : Below w0.heap.size w0 W') :
    Bd w0 W' gz s N X (C ++ [c1]) T b vn v1 vm NC (AC ++ [v5]) MC (fun k => ok k ∨ some k = v1.ownBlock ∨ some k = v5.ownBlock) := by
  have hl : AC.length = C.length := by have := h.arg.1; omega
  have kb : ∀ {k : Nat} {t : TypeId} {c : Array Value}, W.heap[k]? = some (.cells c t (0, 0)) → some k ≠ va.ownBlock → 83 ≠ t → W'.heap[k]? = some (.cells c t (0, 0)) := fun hk n1 n2 =>
    (hs _ (blk_lt hk) n1 (fun e => by subst e; exact blk_ne h.box hk n2 rfl)).trans hk
  have kr : ∀ {e size n : Nat} {v : Value} {xs : List Value}, W.ownsRow w0.heap.size e size v n xs → 96 ≠ e → 83 ≠ e → W'.ownsRow w0.heap.size e size v n xs := fun hr n1 n2 => own_move hr (fun k hk => by
    obtain ⟨c, hc⟩ := own_typed hr k hk
    exact (kb hc (own_type h.arg hc n1) n2).trans hc.symm)
  refine ⟨hbox, ⟨Or.inl h.og.1, h.og.2⟩, kr h.nod (by decide) (by decide), by rw [List.length_append]; exact ho, kr h.mem (by decide) (by decide), fun k hk => Or.inl (h.on k hk), fun k hk => Or.inr (Or.inl hk.symm), fun k hk => Or.inl (h.om k hk), h.nc, fun n c hc => ?_, fun n hn => ?_, fun n i hn hi => ?_, h.inj, hb⟩
  · by_cases hn : n < C.length
    · rw [List.getElem?_append_left hn] at hc
      obtain ⟨v, a1, a2, a3⟩ := h.ac n c hc
      exact ⟨v, by rw [List.getElem?_append_left (by omega)]; exact a1, kr a2 (by decide) (by decide), fun k hk => ⟨Or.inl (a3 k hk).1, (a3 k hk).2⟩⟩
    · have hn2 := (List.getElem?_eq_some_iff.mp hc).1
      simp only [List.length_append, List.length_cons, List.length_nil] at hn2
      have e : n = C.length := by omega
      subst e
      rw [List.getElem?_append_right (Nat.le_refl _), Nat.sub_self] at hc
      cases hc
      exact ⟨v5, by rw [List.getElem?_append_right (by omega), hl, Nat.sub_self]; rfl, kr h5 (by decide) (by decide), fun k hk => ⟨Or.inr (Or.inr hk.symm), fun n i hn hi e => h5n k hk (by rw [e]; exact (h.rows n i hn hi).2.1)⟩⟩
  · obtain ⟨t, cc, cur, a1, a2, a3, a4, a5⟩ := h.mc n hn
    refine ⟨t, cc, cur, a1, kb a2 a5 (by decide), a3, Or.inl a4, fun e => ?_⟩
    rcases hat with q | ⟨k, q, q2⟩
    · rw [q] at e; exact a5 e
    · rw [q] at e; cases e; have := blk_lt a2; omega
  · obtain ⟨a1, a2, a3⟩ := h.rows n i hn hi
    exact ⟨kb a1 (own_type h.arg a1 (by decide)) (by decide), Or.inl a2, a3⟩
theorem Bd.memo (h : Bd w0 W gz s N X C T b vn va vm NC AC MC ok) {t7 c7 : Nat} {g : Nat → Nat} {TC : List Value} {b' : Nat}
    (hs : ∀ k, k < W.heap.size → some k ≠ vm.ownBlock → k ≠ gz → W'.heap[k]? = W.heap[k]?) (ho : W'.ownsRow w0.heap.size 80 1 v1 (T + 1) (MC ++ [.slice (some ⟨t7, 0, none⟩) N c7]))
    (h7 : W.ownsRow b' 96 1 (.slice (some ⟨t7, 0, none⟩) N c7) N TC) (h7n : ¬ ok t7) (htc : ∀ i, i < N → TC[i]? = some (.slice (some ⟨g i, 0, none⟩) N N))
    (hr : ∀ i, i < N → W.heap[g i]? = some (.cells (encf N (fun _ => 0)) 3 (0, 0)) ∧ ¬ ok (g i) ∧ w0.heap.size ≤ g i) (hgi : ∀ i j, i < N → j < N → g i = g j → i = j)
    (hbox : W'.heap[gz]? = some (.cells #[.string s, vn, va, v1] 83 (0, 0))) (hb : Below w0.heap.size w0 W') :
    Bd w0 W' gz s N X C (T + 1) (fun n i => if n = T then g i else b n i) vn va v1 NC AC (MC ++ [.slice (some ⟨t7, 0, none⟩) N c7]) (fun k => ok k ∨ some k = v1.ownBlock ∨ k = t7 ∨ ∃ i, i < N ∧ k = g i) := by
  have hl : MC.length = T := by have := h.mem.1; omega
  have kb : ∀ {k : Nat} {t : TypeId} {c : Array Value}, W.heap[k]? = some (.cells c t (0, 0)) → 80 ≠ t → 83 ≠ t → W'.heap[k]? = some (.cells c t (0, 0)) := fun hk n1 n2 =>
    (hs _ (blk_lt hk) (own_type h.mem hk n1) (fun e => by subst e; exact blk_ne h.box hk n2 rfl)).trans hk
  have kr : ∀ {e size n : Nat} {v : Value} {xs : List Value}, W.ownsRow w0.heap.size e size v n xs → 80 ≠ e → 83 ≠ e → W'.ownsRow w0.heap.size e size v n xs := fun hr n1 n2 => own_move hr (fun k hk => by
    obtain ⟨c, hc⟩ := own_typed hr k hk
    exact (kb hc n1 n2).trans hc.symm)
  refine ⟨hbox, ⟨Or.inl h.og.1, h.og.2⟩, kr h.nod (by decide) (by decide), kr h.arg (by decide) (by decide), ho, fun k hk => Or.inl (h.on k hk), fun k hk => Or.inl (h.oa k hk), fun k hk => Or.inr (Or.inl hk.symm), h.nc, fun n c hc => ?_, fun n hn => ?_, fun n i hn hi => ?_, fun n i n' i' hn hi hn' hi' e => ?_, hb⟩
  · obtain ⟨v, a1, a2, a3⟩ := h.ac n c hc
    refine ⟨v, a1, kr a2 (by decide) (by decide), fun k hk => ⟨Or.inl (a3 k hk).1, fun n i hn hi => ?_⟩⟩
    by_cases q : n = T
    · rw [if_pos q]; intro e; exact (hr i hi).2.1 (by rw [← e]; exact (a3 k hk).1)
    · rw [if_neg q]; exact (a3 k hk).2 n i (by omega) hi
  · by_cases q : n = T
    · subst q
      obtain ⟨_, hx⟩ := h7
      rcases hx with ⟨hx, _⟩ | ⟨g', cap, cur, hx, _, hh, _, _, _, ht⟩
      · cases hx
      · injection hx with hx _ _
        injection hx with hx
        injection hx with hx
        subst hx
        refine ⟨t7, c7, cur, by rw [List.getElem?_append_right (by omega), hl, Nat.sub_self]; rfl, kb hh (by decide) (by decide), fun i hi => ?_, Or.inr (Or.inr (Or.inl rfl)), fun e => h7n (h.oa _ e.symm)⟩
        have h2 := htc i hi
        rw [← ht, List.getElem?_take_of_lt (by omega), Array.getElem?_toList] at h2
        rw [if_pos rfl]
        exact h2
    · obtain ⟨t, cc, cur, a1, a2, a3, a4, a5⟩ := h.mc n (by omega)
      exact ⟨t, cc, cur, by rw [List.getElem?_append_left (by omega)]; exact a1, kb a2 (by decide) (by decide), fun i hi => by rw [if_neg q]; exact a3 i hi, Or.inl a4, a5⟩
  · by_cases q : n = T
    · rw [if_pos q]
      obtain ⟨a1, a2, a3⟩ := hr i hi
      exact ⟨kb a1 (by decide) (by decide), Or.inr (Or.inr (Or.inr ⟨i, hi, rfl⟩)), a3⟩
    · rw [if_neg q]
      obtain ⟨a1, a2, a3⟩ := h.rows n i (by omega) hi
      exact ⟨kb a1 (by decide) (by decide), Or.inl a2, a3⟩
  · by_cases q : n = T <;> by_cases q2 : n' = T
    · rw [if_pos q, if_pos q2] at e; exact ⟨by omega, hgi i i' hi hi' e⟩
    · rw [if_pos q, if_neg q2] at e; exact absurd (by rw [e]; exact (h.rows n' i' (by omega) hi').2.1) (hr i hi).2.1
    · rw [if_neg q, if_pos q2] at e; exact absurd (by rw [← e]; exact (h.rows n i (by omega) hi).2.1) (hr i' hi').2.1
    · rw [if_neg q, if_neg q2] at e; exact h.inj n i n' i' (by omega) hi (by omega) hi' e
end
theorem own_some {w : World} {base n size : Nat} {e : TypeId} {v : Value} {xs : List Value} (h : w.ownsRow base e size v n xs) (hn : 0 < n) : ∃ g cap c, v = .slice (some ⟨g, 0, none⟩) n cap ∧ w.heap[g]? = some (.cells c e (0, 0)) ∧ ∀ j u, xs[j]? = some u → w.cell? ⟨g, j, none⟩ = some u := by
  rcases h.2 with ⟨_, h2⟩ | ⟨g, cap, cur, rfl, _, hg, _⟩
  · omega
  · refine ⟨g, cap, cur, rfl, hg, fun j u hj => ?_⟩
    have hl := (List.getElem?_eq_some_iff.mp hj).1
    rw [World.ownsRow.cellAt h j (by rw [← h.1]; exact hl)]
    exact hj
theorem Bd.lay {w0 W : World} {gz : Nat} {s : ByteArray} {N : Nat} {X : List Rx} {C : List (List Int)} {b : Nat → Nat → Nat} {vn va vm : Value} {NC AC MC : List Value} {ok : Nat → Prop} (h : Bd w0 W gz s N X C X.length b vn va vm NC AC MC ok) (hC : C.length = X.length) (hX : 0 < X.length) : ∃ an aa am, Lay W gz s N X C b an aa am ∧ Ms w0 W W X.length N b (fun _ _ _ => 0) := by
  obtain ⟨gn, cn, xn, rfl, n1, n2⟩ := own_some h.nod hX
  obtain ⟨ga, ca, xa, rfl, a1, a2⟩ := own_some h.arg (by omega)
  obtain ⟨gm, cm, xm, rfl, m1, m2⟩ := own_some h.mem hX
  have far : ∀ {k : Nat} {t : TypeId} {c : Array Value}, W.heap[k]? = some (.cells c t (0, 0)) → t ≠ 3 → ∀ n i, n < X.length → i < N → k ≠ b n i := fun hk ht n i hn hi => blk_ne hk (h.rows n i hn hi).1 ht
  have zf := far h.box (by decide)
  refine ⟨⟨gn, 0, none⟩, ⟨ga, 0, none⟩, ⟨gm, 0, none⟩, ⟨h.inj, ⟨(blk_cell h.box 0).trans rfl, zf⟩, ⟨cn, (blk_cell h.box 1).trans rfl, zf⟩, ⟨ca, by rw [← hC]; exact (blk_cell h.box 2).trans rfl, zf⟩, ⟨cm, (blk_cell h.box 3).trans rfl, zf⟩, fun n x hx => ?_, fun n c hx => ?_, fun n c hc => ?_, fun n hn => ?_⟩, ?_⟩
  · rw [add_at, Nat.zero_add]
    exact ⟨n2 _ _ (h.nc n x hx).1, far n1 (by decide)⟩
  · rw [add_at, Nat.zero_add]
    exact ⟨n2 _ _ ((h.nc n _ hx).2 c rfl), far n1 (by decide)⟩
  · obtain ⟨v, h1, h2, h3⟩ := h.ac n c hc
    obtain ⟨A, cc, rfl⟩ := own_slice h2
    refine ⟨A, cc, ?_, fun k q hq => ?_⟩
    · rw [add_at, Nat.zero_add]
      exact ⟨a2 _ _ h1, far a1 (by decide)⟩
    · have hk := (List.getElem?_eq_some_iff.mp hq).1
      obtain ⟨g, cap, xx, hv, g1, g2⟩ := own_some h2 (by omega)
      injection hv with hv _ _
      subst hv
      refine ⟨⟨g, 0, none⟩, rfl, ?_⟩
      rw [add_at, Nat.zero_add]
      exact ⟨g2 k _ (by unfold nums; rw [List.getElem?_map, hq]; rfl), (h3 g (by simp [Value.ownBlock])).2⟩
  · obtain ⟨t, cc, cur, h1, h2, h3, _⟩ := h.mc n hn
    refine ⟨⟨t, 0, none⟩, cc, ?_, fun i hi => ?_⟩
    · rw [add_at, Nat.zero_add]
      exact ⟨m2 _ _ h1, far m1 (by decide)⟩
    · rw [add_at, Nat.zero_add]
      exact ⟨(blk_cell h2 i).trans (h3 i hi), far h2 (by decide)⟩
  · exact ⟨Kept.refl _ _, fun n i hn hi => (h.rows n i hn hi).1, h.bel, fun n i hn hi => (h.rows n i hn hi).2.2⟩
end Go.Proofs.Ytldgkgdgcfllmaa.Rg
end
section
namespace Go.Proofs.Ytldgkgdgcfllmaa.Rg
open Go.RowKit Go.Shelf Go.Proofs.Ytldgkgdgcfllmaa.P Go.Proofs.Ytldgkgdgcfllmaa.Pl Go.Proofs.YtldgkgdgcfllmaaW.PrintWords Go.Proofs.YtldgkgdgcfllmaaW.PrintLast Go.Proofs.YtldgkgdgcfllmaaW.PrintMore
set_option linter.unusedVariables false
set_option linter.unusedSimpArgs false
structure FN (w0 wr : World) (gz : Nat) (vb : Option Nat) (s : ByteArray) (va vm : Value) (g1 n c1 : Nat) (cur : Value) (L : List Value) (w' : World) : Prop where
  own : w'.ownsRow w0.heap.size 29 3 (.slice (some ⟨g1, 0, none⟩) n c1) n L
  box : w'.heap[gz]? = some (.cells #[.string s, cur, va, vm] 83 (0, 0))
  same : ∀ k, k < wr.heap.size → some k ≠ vb → k ≠ gz → w'.heap[k]? = wr.heap[k]?
  bel : Below w0.heap.size w0 w'
  at1 : vb = some g1 ∨ wr.heap.size ≤ g1
  gg : w0.heap.size ≤ gz
  sz : wr.heap.size ≤ w'.heap.size
section
variable {w0 wr w' : World} {gz : Nat} {vb : Option Nat} {s : ByteArray} {va vm cur : Value} {g1 n c1 : Nat} {L : List Value}
theorem FN.blk (h : FN w0 wr gz vb s va vm g1 n c1 cur L w') : ∃ c, w'.heap[g1]? = some (.cells c 29 (0, 0)) := own_typed h.own g1 (by simp [Value.ownBlock])
theorem FN.ne (h : FN w0 wr gz vb s va vm g1 n c1 cur L w') : g1 ≠ gz := by
  obtain ⟨c, hc⟩ := h.blk
  exact blk_ne hc h.box (by decide)
theorem FN.st (h : FN w0 wr gz vb s va vm g1 n c1 cur L w') (j : Nat) (u : Value) : FN w0 wr gz vb s va vm g1 n c1 cur (L.set j u) (w'.setCell ⟨g1, j, none⟩ u) := by
  have h1 := World.ownsRow.stored h.own j u
  refine ⟨h1.1, blk_far h.box (Ne.symm h.ne) u, fun k hk hn hz => (h1.2.block k (Nat.lt_of_lt_of_le hk h.sz) (fun e => ?_)).trans (h.same k hk hn hz), below_set h.bel (own_base h.own g1 (by simp [Value.ownBlock])), h.at1, h.gg, Nat.le_trans h.sz h1.2.size⟩
  cases e
  rcases h.at1 with a | a
  · exact hn a.symm
  · omega
theorem FN.bx (h : FN w0 wr gz vb s va vm g1 n c1 cur L w') (u : Value) : FN w0 wr gz vb s va vm g1 n c1 u L (w'.setCell ⟨gz, 1, none⟩ u) := by
  refine ⟨own_move h.own (fun k hk => ?_), blk_put h.box 1 u rfl, fun k hk hn hz => (Below.heap_setCell w' ⟨gz, 1, none⟩ u k hz).trans (h.same k hk hn hz), below_set h.bel h.gg, h.at1, h.gg, by simpa [World.setCell] using h.sz⟩
  have e : k = g1 := by simpa [Value.ownBlock] using hk.symm
  subst e
  exact Below.heap_setCell w' ⟨gz, 1, none⟩ u k h.ne
theorem FN.cell (h : FN w0 wr gz vb s va vm g1 n c1 cur L w') {j : Nat} {u : Value} (hj : L[j]? = some u) : w'.cell? ⟨g1, j, none⟩ = some u ∧ w'.frozen? ⟨g1, j, none⟩ = false := by
  have hl := (List.getElem?_eq_some_iff.mp hj).1
  exact ⟨by rw [World.ownsRow.cellAt h.own j (by rw [← h.own.1]; exact hl)]; exact hj, World.ownsRow.frozenAt h.own j⟩
end
theorem set3 (L : List Value) {m : Nat} (hm : L.length = m) (z0 z1 z2 a b c : Value) : (((L ++ [z0, z1, z2]).set m a).set (m + 1) b).set (m + 2) c = L ++ [a, b, c] := by
  subst hm
  rw [List.set_append_right _ _ (Nat.le_refl _), Nat.sub_self]
  rw [List.set_append_right _ _ (by omega), show L.length + 1 - L.length = 1 by omega]
  rw [List.set_append_right _ _ (by omega), show L.length + 2 - L.length = 2 by omega]
  rfl
theorem at3 (L : List Value) {m : Nat} (hm : L.length = m) (z0 z1 z2 : Value) : (L ++ [z0, z1, z2])[m]? = some z0 ∧ (L ++ [z0, z1, z2])[m + 1]? = some z1 ∧ (L ++ [z0, z1, z2])[m + 2]? = some z2 := by
  subst hm
  refine ⟨?_, ?_, ?_⟩ <;> rw [List.getElem?_append_right (by omega)]
  · rw [Nat.sub_self]; rfl
  · rw [show L.length + 1 - L.length = 1 by omega]; rfl
  · rw [show L.length + 2 - L.length = 2 by omega]; rfl
structure Qs (w0 W0 W : World) (ok0 ok1 : Nat → Prop) (gz : Nat) (s : ByteArray) (N : Nat) (X : List Rx) (C : List (List Int)) (T : Nat) (b : Nat → Nat → Nat) (vn va vm : Value) (NC AC MC : List Value) (t7 c7 : Nat) (g : Nat → Nat) (TC : List Value) (v5 : Value) (a1 : List Int) : Prop where
  bd : Bd w0 W gz s N X C T b vn va vm NC AC MC ok1
  row : W.ownsRow w0.heap.size 3 1 v5 a1.length (nums .i64 a1)
  tab : W.ownsRow w0.heap.size 96 1 (.slice (some ⟨t7, 0, none⟩) N c7) N TC
  tno : ¬ ok1 t7 ∧ W0.heap.size ≤ t7
  tc : ∀ i, i < N → TC[i]? = some (.slice (some ⟨g i, 0, none⟩) N N)
  rows : ∀ i, i < N → W.heap[g i]? = some (.cells (encf N (fun _ => 0)) 3 (0, 0)) ∧ ¬ ok1 (g i) ∧ some (g i) ≠ v5.ownBlock ∧ W0.heap.size ≤ g i ∧ w0.heap.size ≤ g i
  inj : ∀ i j, i < N → j < N → g i = g j → i = j
  fr : ∀ k, k < W0.heap.size → ¬ ok0 k → W.heap[k]? = W0.heap[k]?
  sub : ∀ k, ok1 k → ok0 k ∨ W0.heap.size ≤ k
  rge : ∀ k, v5.ownBlock = some k → W0.heap.size ≤ k
  sz : W0.heap.size ≤ W.heap.size
section
variable {w0 W0 W W' : World} {ok0 ok1 : Nat → Prop} {gz gb : Nat} {bx : Array Value} {s : ByteArray} {N T : Nat} {X : List Rx} {C : List (List Int)} {b : Nat → Nat → Nat} {vn va vm v1 v5 : Value} {NC AC MC TC : List Value} {t7 c7 : Nat} {g : Nat → Nat} {a1 : List Int}
theorem Qs.node (h : P2 w0 W0 W ok0 ok1 gz gb bx s N X C v5 a1 (.slice (some ⟨t7, 0, none⟩) N c7) N g TC) (hb : Bd w0 W gz s N X C T b vn va vm NC AC MC ok1) {x : Rx} {f0 : Int} {f1 : ByteArray} {u2 : Value} (h0 : f0 = kindOf x) (hx : ∀ c, x = .letter c → f1 = c) {g1 c1 : Nat}
    (hf : FN w0 W gz vn.ownBlock s va vm g1 (X.length + 1) c1 (.slice (some ⟨g1, 0, none⟩) (X.length + 1) c1) (NC ++ [.int .i64 f0, .string f1, u2]) W') :
    Qs w0 W0 W' ok0 (fun k => (ok1 k ∧ k < W.heap.size) ∨ k = g1) gz s N (X ++ [x]) C T b (.slice (some ⟨g1, 0, none⟩) (X.length + 1) c1) va vm (NC ++ [.int .i64 f0, .string f1, u2]) AC MC t7 c7 g TC v5 a1 ∧ ∀ k, v5.ownBlock = some k → ¬ ((ok1 k ∧ k < W.heap.size) ∨ k = g1) := by
  subst h0
  have hbs := hb.step (W' := W) (fun k _ _ => rfl) hb.bel
  have hbn := hbs.node hx hf.same hf.own hf.box hf.bel
  have hg1 : ∀ k, k < W.heap.size → some k ≠ vn.ownBlock → k ≠ g1 := fun k hk hn e => by
    subst e
    rcases hf.at1 with a | a
    · exact hn a.symm
    · omega
  have hgz1 := hb.og.1
  have ty : ∀ {k : Nat} {t : TypeId} {c : Array Value}, W.heap[k]? = some (.cells c t (0, 0)) → 29 ≠ t → 83 ≠ t → W'.heap[k]? = some (.cells c t (0, 0)) ∧ k ≠ g1 := fun hk n1 n2 =>
    ⟨(hf.same _ (blk_lt hk) (own_type hb.nod hk n1) (fun e => by subst e; exact blk_ne hb.box hk n2 rfl)).trans hk, hg1 _ (blk_lt hk) (own_type hb.nod hk n1)⟩
  have tr : ∀ {e size n : Nat} {v : Value} {xs : List Value}, W.ownsRow w0.heap.size e size v n xs → 29 ≠ e → 83 ≠ e → W'.ownsRow w0.heap.size e size v n xs ∧ ∀ k, v.ownBlock = some k → k ≠ g1 := fun hr n1 n2 =>
    ⟨own_move hr (fun k hk => by obtain ⟨c, hc⟩ := own_typed hr k hk; exact (ty hc n1 n2).1.trans hc.symm), fun k hk => by obtain ⟨c, hc⟩ := own_typed hr k hk; exact (ty hc n1 n2).2⟩
  have hrow := tr h.p1.row (by decide) (by decide)
  have htab := tr h.tab (by decide) (by decide)
  refine ⟨⟨hbn.mono (fun k hk => hk.imp id (fun e => by simpa [Value.ownBlock] using e)), hrow.1, htab.1, ⟨?_, (h.tno t7 (by simp [Value.ownBlock])).2.2.2⟩, h.tc, fun i hi => ?_, h.inj, fun k hk hn => ?_, fun k hk => ?_, h.p1.rge, Nat.le_trans h.p1.sz hf.sz⟩, fun k hk => ?_⟩
  · rintro (a | a)
    · exact (h.tno t7 (by simp [Value.ownBlock])).1 a.1
    · exact htab.2 t7 (by simp [Value.ownBlock]) a
  · obtain ⟨c1, c2, c3, c4, c5, c6⟩ := h.rows i hi
    have := ty c1 (by decide) (by decide)
    refine ⟨this.1, ?_, c3, c5, c6⟩
    rintro (a | a)
    · exact c2 a.1
    · exact this.2 a
  · have nk : ¬ ok1 k := fun a => by
      rcases h.p1.sub k a with q | q
      · exact hn q
      · omega
    exact (hf.same k (Nat.lt_of_lt_of_le hk h.p1.sz) (fun e => nk (hb.on k e.symm)) (fun e => nk (by rw [e]; exact hb.og.1))).trans (h.p1.fr k hk hn)
  · rcases hk with a | a
    · exact h.p1.sub k a.1
    · subst a
      rcases hf.at1 with q | q
      · exact h.p1.sub k (hb.on k q)
      · exact Or.inr (Nat.le_trans h.p1.sz q)
  · rintro (a | a)
    · exact (h.p1.rno k hk).1 a.1
    · exact hrow.2 k hk a
theorem Qs.args (h : Qs w0 W0 W ok0 ok1 gz s N X C T b vn va vm NC AC MC t7 c7 g TC v5 a1) (hrn : ∀ k, v5.ownBlock = some k → ¬ ok1 k) {W1 : World}
    (ho : W1.ownsRow w0.heap.size 96 1 v1 (C.length + 1) (AC ++ [v5])) (hb : Below w0.heap.size w0 W1) (hg : W.grownBy W1 va.ownBlock) (hat : v1.ownBlock = va.ownBlock ∨ ∃ k, v1.ownBlock = some k ∧ W.heap.size ≤ k) :
    Qs w0 W0 (W1.setCell ⟨gz, 2, none⟩ v1) ok0 (fun k => (ok1 k ∧ k < W.heap.size) ∨ some k = v1.ownBlock ∨ some k = v5.ownBlock) gz s N X (C ++ [a1]) T b vn v1 vm NC (AC ++ [v5]) MC t7 c7 g TC (.slice none 0 0) [] := by
  have hbs := h.bd.step (W' := W) (fun k _ _ => rfl) h.bd.bel
  have hsame : ∀ k, k < W.heap.size → some k ≠ va.ownBlock → k ≠ gz → (W1.setCell ⟨gz, 2, none⟩ v1).heap[k]? = W.heap[k]? := fun k hk hn hz => (Below.heap_setCell W1 ⟨gz, 2, none⟩ v1 k hz).trans (hg.block k hk hn)
  have hbox1 := blk_grown h.bd.box hg (own_type h.bd.arg h.bd.box (by decide))
  have hbox := blk_put hbox1 2 v1 (cs' := #[.string s, vn, v1, vm]) rfl
  have ho2 : (W1.setCell ⟨gz, 2, none⟩ v1).ownsRow w0.heap.size 96 1 v1 (C.length + 1) (AC ++ [v5]) := own_move ho (fun k hk => Below.heap_setCell W1 ⟨gz, 2, none⟩ v1 k (by
    obtain ⟨c, hc⟩ := own_typed ho k hk
    exact blk_ne hc hbox1 (by decide)))
  have hbb := below_set (j := 2) (v := v1) hb h.bd.og.2
  have hbn := hbs.args hsame hat ho2 h.row (fun k hk a => hrn k hk a.1) hbox hbb
  have nv : ∀ {k : Nat}, k < W.heap.size → some k ≠ va.ownBlock → some k ≠ v1.ownBlock := fun hk hn e => by
    rcases hat with a | ⟨k2, a, a2⟩
    · rw [a] at e; exact hn e
    · rw [a] at e; cases e; omega
  have kb : ∀ {k : Nat} {t : TypeId} {c : Array Value}, W.heap[k]? = some (.cells c t (0, 0)) → some k ≠ va.ownBlock → 83 ≠ t → (W1.setCell ⟨gz, 2, none⟩ v1).heap[k]? = some (.cells c t (0, 0)) := fun hk n1 n2 =>
    (hsame _ (blk_lt hk) n1 (fun e => by subst e; exact blk_ne h.bd.box hk n2 rfl)).trans hk
  have t7b : (Value.slice (some ⟨t7, 0, none⟩) N c7).ownBlock = some t7 := by simp [Value.ownBlock]
  have t7n : some t7 ≠ va.ownBlock := fun e => h.tno.1 (h.bd.oa t7 e.symm)
  obtain ⟨ct, hct⟩ := own_typed h.tab t7 t7b
  refine ⟨hbn, own_nil _ _ _ _, own_move h.tab (fun k hk => ?_), ⟨?_, h.tno.2⟩, h.tc, fun i hi => ?_, h.inj, fun k hk hn => ?_, fun k hk => ?_, fun k hk => by simp [Value.ownBlock] at hk, by simpa [World.setCell] using Nat.le_trans h.sz hg.size⟩
  · have e : k = t7 := by rw [t7b] at hk; exact (Option.some.inj hk).symm
    subst e
    exact (kb hct t7n (by decide)).trans hct.symm
  · rintro (a | a | a)
    · exact h.tno.1 a.1
    · exact nv (blk_lt hct) t7n a
    · exact own_type h.row hct (by decide) a
  · obtain ⟨c1, c2, c3, c5, c6⟩ := h.rows i hi
    have hn := own_type h.bd.arg c1 (by decide)
    refine ⟨kb c1 hn (by decide), ?_, by simp [Value.ownBlock], c5, c6⟩
    rintro (a | a | a)
    · exact c2 a.1
    · exact nv (blk_lt c1) hn a
    · exact c3 a
  · have nk : ¬ ok1 k := fun a => by
      rcases h.sub k a with q | q
      · exact hn q
      · omega
    exact (hsame k (Nat.lt_of_lt_of_le hk h.sz) (fun e => nk (h.bd.oa k e.symm)) (fun e => nk (by rw [e]; exact h.bd.og.1))).trans (h.fr k hk hn)
  · rcases hk with a | a | a
    · exact h.sub k a.1
    · rcases hat with q | ⟨k2, q, q2⟩
      · rw [q] at a; exact h.sub k (h.bd.oa k a.symm)
      · rw [q] at a; cases a; exact Or.inr (Nat.le_trans h.sz q2)
    · exact Or.inr (h.rge k a.symm)
theorem Qs.memo (h : Qs w0 W0 W ok0 ok1 gz s N X C T b vn va vm NC AC MC t7 c7 g TC v5 a1) {W1 : World}
    (ho : W1.ownsRow w0.heap.size 80 1 v1 (T + 1) (MC ++ [.slice (some ⟨t7, 0, none⟩) N c7])) (hb : Below w0.heap.size w0 W1) (hg : W.grownBy W1 vm.ownBlock) (hat : v1.ownBlock = vm.ownBlock ∨ ∃ k, v1.ownBlock = some k ∧ W.heap.size ≤ k) :
    Bdx w0 (W1.setCell ⟨gz, 3, none⟩ v1) gz s N X C (T + 1) (fun k => ok0 k ∨ W0.heap.size ≤ k) ∧ (∀ k, k < W0.heap.size → ¬ ok0 k → (W1.setCell ⟨gz, 3, none⟩ v1).heap[k]? = W0.heap[k]?) ∧ W0.heap.size ≤ (W1.setCell ⟨gz, 3, none⟩ v1).heap.size ∧ (W1.setCell ⟨gz, 3, none⟩ v1).cell? ⟨gz, 1, none⟩ = some vn := by
  have hsame : ∀ k, k < W.heap.size → some k ≠ vm.ownBlock → k ≠ gz → (W1.setCell ⟨gz, 3, none⟩ v1).heap[k]? = W.heap[k]? := fun k hk hn hz => (Below.heap_setCell W1 ⟨gz, 3, none⟩ v1 k hz).trans (hg.block k hk hn)
  have hbox1 := blk_grown h.bd.box hg (own_type h.bd.mem h.bd.box (by decide))
  have hbox := blk_put hbox1 3 v1 (cs' := #[.string s, vn, va, v1]) rfl
  have ho2 : (W1.setCell ⟨gz, 3, none⟩ v1).ownsRow w0.heap.size 80 1 v1 (T + 1) (MC ++ [.slice (some ⟨t7, 0, none⟩) N c7]) := own_move ho (fun k hk => Below.heap_setCell W1 ⟨gz, 3, none⟩ v1 k (by
    obtain ⟨c, hc⟩ := own_typed ho k hk
    exact blk_ne hc hbox1 (by decide)))
  have hbb := below_set (j := 3) (v := v1) hb h.bd.og.2
  have hbn := h.bd.memo hsame ho2 h.tab h.tno.1 h.tc (fun i hi => by
    obtain ⟨c1, c2, c3, c5, c6⟩ := h.rows i hi
    exact ⟨c1, c2, c6⟩) h.inj hbox hbb
  refine ⟨⟨_, _, _, _, _, _, _, hbn.mono (fun k hk => ?_)⟩, fun k hk hn => ?_, by simpa [World.setCell] using Nat.le_trans h.sz hg.size, (blk_cell hbox 1).trans rfl⟩
  · rcases hk with a | a | a | ⟨i, hi, a⟩
    · exact h.sub k a
    · rcases hat with q | ⟨k2, q, q2⟩
      · rw [q] at a; exact h.sub k (h.bd.om k a.symm)
      · rw [q] at a; cases a; exact Or.inr (Nat.le_trans h.sz q2)
    · rw [a]; exact Or.inr h.tno.2
    · rw [a]; exact Or.inr (h.rows i hi).2.2.2.1
  · have nk : ¬ ok1 k := fun a => by
      rcases h.sub k a with q | q
      · exact hn q
      · omega
    exact (hsame k (Nat.lt_of_lt_of_le hk h.sz) (fun e => nk (h.bd.om k e.symm)) (fun e => nk (by rw [e]; exact h.bd.og.1))).trans (h.fr k hk hn)
end
end Go.Proofs.Ytldgkgdgcfllmaa.Rg
end
section
namespace Go.Proofs.Ytldgkgdgcfllmaa.Rg
open Go.RowKit Go.Shelf Go.Proofs.Ytldgkgdgcfllmaa.P Go.Proofs.Ytldgkgdgcfllmaa.Pl Go.Proofs.YtldgkgdgcfllmaaW.PrintWords Go.Proofs.YtldgkgdgcfllmaaW.PrintLast Go.Proofs.YtldgkgdgcfllmaaW.PrintMore
set_option linter.unusedVariables false
set_option linter.unusedSimpArgs false
theorem infI : (Try.prog.info? 3).map (fun i => (i.zero, i.size, i.bytes)) = some (some (.int .i64 0), 1, 8) := by kernel_rfl
theorem infR : (Try.prog.info? 96).map (fun i => (i.zero, i.size, i.bytes)) = some (some (.slice none 0 0), 1, 24) := by kernel_rfl
theorem infT : (Try.prog.info? 80).map (fun i => (i.zero, i.size, i.bytes)) = some (some (.slice none 0 0), 1, 24) := by kernel_rfl
theorem undR : Try.prog.underlying 96 = some (.slice 3) := by kernel_rfl
theorem undT : Try.prog.underlying 80 = some (.slice 96) := by kernel_rfl
theorem undM : Try.prog.underlying 81 = some (.slice 80) := by kernel_rfl
theorem made64 (n : Nat) : madeCells (Value.int .i64 0).cells (n * 1) = encf n (fun _ => 0) := by
  unfold madeCells encf
  rw [Nat.mul_one]
  apply Array.toList_inj.mp
  simp only [Array.toList_map, Array.toList_range]
  refine List.ext_getElem (by simp) (fun i h1 h2 => ?_)
  simp [Value.cells, Nat.mod_one]
theorem make64 (W : World) (n : Nat) (hn : n ≤ 100000000) : (Instr.makeSlice 96 (.int .i64 (n : Int)) (.int .i64 (n : Int))).run Try.prog W = .ok (.slice (some ⟨W.heap.size, 0, none⟩) n n) (W.alloc (.cells (encf n (fun _ => 0)) 3)) := by
  obtain ⟨i, hi, hz⟩ := Option.map_eq_some_iff.1 infI
  simp only [Prod.mk.injEq] at hz
  obtain ⟨h0, h1, h2⟩ := hz
  have := run_make (P := Try.prog) W 96 3 i (.int .i64 0) undR hi h0 .i64 .i64 (n : Int) (n : Int) (by omega) (Int.le_refl _) (by rw [h2]; omega) (by omega)
  rw [h1, Int.toNat_natCast, made64] at this
  exact this
theorem Bdx.str {w0 W : World} {gz : Nat} {s : ByteArray} {N T : Nat} {X : List Rx} {C : List (List Int)} {ok : Nat → Prop} (h : Bdx w0 W gz s N X C T ok) : W.cell? ⟨gz, 0, none⟩ = some (.string s) := by
  obtain ⟨b, vn, va, vm, NC, AC, MC, h⟩ := h
  exact (blk_cell h.box 0).trans rfl
theorem pcl_len (ys : List Rx) : ∀ b, (pcl ys b).length = szl ys := by
  induction ys with
  | nil => intro b; rfl
  | cons y t ih => intro b; simp only [pcl, szl, List.length_append, pcs_len, ih]
theorem szl_len (ys : List Rx) : ys.length ≤ szl ys := by
  induction ys with
  | nil => simp [szl]
  | cons y t ih => have := sz_pos y; simp only [List.length_cons, szl]; omega
theorem nml_len (ys : List Rx) : ∀ b, (nml ys b).length = ys.length := by
  induction ys with
  | nil => intro b; rfl
  | cons y t ih => intro b; simp only [nml, List.length_cons, ih]
theorem szl_take {ys : List Rx} {k : Nat} {y : Rx} (h : ys[k]? = some y) : szl (ys.take k) + sz y ≤ szl ys := by
  induction ys generalizing k with
  | nil => simp at h
  | cons z t ih =>
    cases k with
    | zero => cases h; simp only [List.take_zero, szl]; omega
    | succ k => have := ih (k := k) (by simpa using h); simp only [List.take_succ_cons, szl]; omega
theorem take_snoc {ys : List Rx} {k : Nat} {y : Rx} (h : ys[k]? = some y) : ys.take (k + 1) = ys.take k ++ [y] := by
  rw [List.take_add_one, h]; rfl
section
variable {P : Program} {md : Region.Mode} {ops : Array Oper} {Q : Exit → Act → World → Prop} {S : World → Prop} {ds : List Nat}
theorem two_last_ {i j : Nat} {Ni Nj : Option Tmp} {oi oj : Oper} {fuel : Nat} {l : Array Bool} {a : Act} {w : World} (li lj : Array Bool) (hi : ops[i]? = some oi) (hj : ops[j]? = some oj) (hNi : oi.dst = Ni) (hNj : oj.dst = Nj)
    (hc : (Region.ready md ops l == [i, j] && l.setIfInBounds i true == li && l.setIfInBounds j true == lj) = true) (hdi : i ∈ ds) (hdj : j ∈ ds)
    (h1 : ∀ K : Act → World → Prop, Shut (∀ a' w', wpAnyLast P md ops Q S ds fuel li a' w' → K a' w') → if Region.wanted oi (yielded ops a.tmps) = true then Oper.wp P oi a w K Q else K (a.put Ni undef) w)
    (h2 : ∀ K : Act → World → Prop, Shut (∀ a' w', wpAnyLast P md ops Q S ds fuel lj a' w' → K a' w') → if Region.wanted oj (yielded ops a.tmps) = true then Oper.wp P oj a w K Q else K (a.put Nj undef) w) :
    wpAnyLast P md ops Q S ds (fuel + 1) l a w := by
  subst hNi
  subst hNj
  simp only [Bool.and_eq_true, beq_iff_eq] at hc
  obtain ⟨⟨h3, h4⟩, h5⟩ := hc
  subst h4
  subst h5
  exact wpAnyLast_ready h3 (by simp) (AllReadyL.cons_last hi hdi (fun K hK => h1 K hK) (AllReadyL.cons_last hj hdj (fun K hK => h2 K hK) AllReadyL.nil))
end
def Tsa11 : Bool × List (List Nat × List Nat) := (true, [([], []), ([0], [0]), ([1], [1]), ([2], [2]), ([], []), ([3], [3]), ([], []), ([3, 6, 0, 1, 2, 3, 4, 5, 6], [3, 6]), ([7, 5, 0, 1, 2, 3, 4, 5, 6, 7], [5, 7]), ([8, 4, 7, 0, 1, 2, 3, 4, 5, 6, 7], [4, 8]), ([0, 0, 1, 2, 3, 4, 5, 6, 7], [0]), ([10, 0, 1, 2, 3, 4, 5, 6, 7], [10]), ([11, 7, 7, 0, 1, 2, 3, 4, 5, 6, 7], [7, 11])])
def Bsa11 : List Nat := [0, 1, 3, 7, 0, 15, 0, 127, 255, 511, 255, 1279, 3327]
theorem tabsa11 : rtab .any (opsOf Try.f76 11) = Tsa11 := by kernel_rfl
theorem bitssa11 : waitsOk Tsa11.2 Bsa11 = true := by kernel_rfl
set_option maxHeartbeats 8000000 in
set_option maxRecDepth 100000 in
theorem addCalls (w0 : World) (gz : Nat) (s : ByteArray) (N : Nat) (hNs : N = s.size + 1) (hs : s.size ≤ 900) : ∀ (q : Nat) (x : Rx) (r : Tr) (A : Option Addr) (c : Nat) (W : World) (X : List Rx) (C : List (List Int)) (ok : Nat → Prop), sz x < q → Ax r x → Kd.C k29 w0 A r.f2.length r.f2 → X.length + sz x ≤ 1000 → C.length = X.length → Bdx w0 W gz s N X C X.length ok →
    Calls Try.prog 76 #[.pointer (some ⟨gz, 0, none⟩), .agg #[.int .i64 r.f0, .string r.f1, .slice A r.f2.length c]] W (PostA w0 W gz s N X C ok x) := by
  intro q
  induction q with
  | zero => intro x r A c W X C ok h; omega
  | succ q ih =>
    intro x r A c W X C ok hq hax hC hT hCX hbd
    obtain ⟨hf0, hf1, hf2, hkid⟩ := hax.kids
    have hszk := sz_kids x
    have HIH := Aside0.mk ih
    have HQ : Aside0 (szl (sons x) < q) := ⟨by omega⟩
    have HSZ : Aside0 (X.length + szl (sons x) + 1 ≤ 1000) := ⟨by omega⟩
    have HF0 := Aside0.mk hf0
    have HF1 := Aside0.mk hf1
    have HF2 := Aside0.mk hf2
    have HKID := Aside0.mk hkid
    have HC := Aside0.mk hC
    have HCX := Aside0.mk hCX
    have hbel := hbd.bel
    have HP1 : Aside0 (P1 w0 W ((W.alloc (Obj.cells #[.int .i64 r.f0, .string r.f1, .slice A r.f2.length c] 29)).alloc (Obj.cells #[] 3)) ok (fun k => ok k ∧ k < W.heap.size) gz W.heap.size #[.int .i64 r.f0, .string r.f1, .slice A r.f2.length c] s N (X ++ pnl ((sons x).take 0)) (C ++ pcl ((sons x).take 0) X.length) (.slice (some ⟨W.heap.size + 1, 0, none⟩) 0 0) (nml ((sons x).take 0) X.length)) := ⟨by
      have hb2 := below_alloc (below_alloc (Below.refl W.heap.size W) (Obj.cells #[.int .i64 r.f0, .string r.f1, .slice A r.f2.length c] 29)) (Obj.cells #[] 3)
      have hsz1 : (W.alloc (Obj.cells #[.int .i64 r.f0, .string r.f1, .slice A r.f2.length c] 29)).heap.size = W.heap.size + 1 := by simp
      have hrow := World.ownsRow_lit (base := w0.heap.size) (e := 3) (size := 1) (W.alloc (Obj.cells #[.int .i64 r.f0, .string r.f1, .slice A r.f2.length c] 29)) #[] 0 (by rw [hsz1]; have := hbel.size; omega) (by simp [maxLen]) (by simp)
      rw [hsz1] at hrow
      refine ⟨?_, hrow, fun k hk => ?_, blk_alloc (blk_new W _) _, fun a => by omega, fun k hk _ => hb2.block k hk, fun k hk => Or.inl hk.1, fun k hk => ?_, hb2.size, Nat.le_refl _⟩
      · have := hbd.step (fun k _ hlt => hb2.block k hlt) (below_then hbel hbel.size hb2)
        simpa [pnl, pcl] using this
      · have e : k = W.heap.size + 1 := by simpa [Value.ownBlock] using hk.symm
        exact ⟨fun a => by omega, by omega⟩
      · have e : k = W.heap.size + 1 := by simpa [Value.ownBlock] using hk.symm
        omega⟩
    have HNS := Aside0.mk hNs
    have HSS := Aside0.mk hs
    clear hq hax hC hT hCX hbd hf0 hf1 hf2 hkid hszk ih hNs hs
    have hl2 : decide ((0 : Int) < 1) = true := by decide
    go_enter Try.func76, Try.ntmps76
    go_wp2
    generalize hws : (W.alloc (Obj.cells #[.int .i64 r.f0, .string r.f1, .slice A r.f2.length c] 29)).alloc (Obj.cells #[] 3) = ws at HP1 ⊢
    clear hws
    go_loopg [5, 6] ((sons x).length + 1) (fun gg v5 v6 w' => ∃ (k : Nat) (kz : Int) (ok1 : Nat → Prop), v6 = .int .i64 kz ∧ Aside0 (kz = (k : Int)) ∧ Aside0 (k ≤ (sons x).length) ∧ Aside0 ((sons x).length + 1 ≤ gg + k) ∧ Aside0 (P1 w0 W w' ok ok1 gz W.heap.size #[.int .i64 r.f0, .string r.f1, .slice A r.f2.length c] s N (X ++ pnl ((sons x).take k)) (C ++ pcl ((sons x).take k) X.length) v5 (nml ((sons x).take k) X.length)))
    case atStart => exact ⟨0, 0, _, rfl, ⟨rfl⟩, ⟨by omega⟩, ⟨by omega⟩, HP1⟩
    case round =>
      clear HP1
      obtain ⟨k, kz, ok1, rfl, ⟨rfl⟩, HK, HG, HP1⟩ := hrel
      cases gk with
      | zero => exact absurd HG.out (by have := HK.out; omega)
      | succ g1 =>
      obtain ⟨A5, c5, e5⟩ := own_slice HP1.out.row
      subst e5
      have b2 := (blk_cell HP1.out.box 2).trans rfl
      by_cases hk : k < (sons x).length
      · obtain ⟨y, hy⟩ : ∃ y, (sons x)[k]? = some y := ⟨_, List.getElem?_eq_getElem hk⟩
        have hst := szl_take hy
        have hsn := take_snoc hy
        have hay := HKID.out k y hy
        have hlen : k < r.f2.length := by rw [HF2.out]; exact hk
        obtain ⟨ad, A2, c2, rfl, h0, h1, h2, h3, h4⟩ := at_T29 HC.out (k : Int) (by omega) (by omega)
        rw [Int.toNat_natCast] at h0 h1 h2
        have hbw := HP1.out.bd.bel
        have k0 := pw_cell_below hbw h0
        have k1 := pw_cell_below hbw h1
        have k2 := pw_cell_below hbw h2
        have lX : (X ++ pnl ((sons x).take k)).length = X.length + szl ((sons x).take k) := by rw [List.length_append, pnl_len]
        have lC : (C ++ pcl ((sons x).take k) X.length).length = (X ++ pnl ((sons x).take k)).length := by rw [List.length_append, pcl_len, lX, HCX.out]
        have hcall := HIH.out y (rd_T29 r.f2 (k : Int)) A2 c2 wr (X ++ pnl ((sons x).take k)) (C ++ pcl ((sons x).take k) X.length) ok1 (by have := HQ.out; omega) hay h4 (by have := HSZ.out; omega) lC HP1.out.bd
        have HCALL := Aside0.mk hcall
        have p1 : ((0 : Int) ≤ (k : Int)) = True := eq_true (by omega)
        have q1 : ((k : Int) < (r.f2.length : Int)) = True := eq_true (by omega)
        have d1 : decide ((k : Int) < (r.f2.length : Int)) = true := decide_eq_true (by omega)
        have hw : wrap64 ((k : Int) + 1) = ((k + 1 : Nat) : Int) := up1 (by have := HSZ.out; have := szl_len (sons x); omega)
        have HW := Aside0.mk hw
        have HY := Aside0.mk hy
        have HSN := Aside0.mk hsn
        have HLX := Aside0.mk lX
        have HA1 : Aside0 ((nml ((sons x).take k) X.length).length ≤ 1000) := ⟨by rw [nml_len, List.length_take]; have := HSZ.out; have := szl_len (sons x); have := Nat.min_le_right k (sons x).length; omega⟩
        have HKK := Aside0.mk hk
        generalize rd_T29 r.f2 (k : Int) = rk at k0 k1 k2 HCALL
        have hu := Try.underlying29
        clear hst hsn hay hlen h0 h1 h2 h3 h4 hbw lX lC hcall hw hy hk
        go_wp2_with (first | (go_at_call 76; (with_reducible refine HCALL.out.mono ?_); rintro e w2 hp; obtain ⟨rfl, hp1⟩ := HP1.out.child hp; have HP2 := Aside0.mk hp1; clear hp hp1) | ((with_reducible refine gate_builtin (b := .append) (xs := #[.tmp 17, .tmp 25]) rfl ?_); at_builtin; refine print_append_cells (w0 := w0) w0.heap.size rfl (.tmp 17) (.tmp 25) 96 3 (.int .i64 0) 1 8 rfl undR infI rfl (by decide) (by omega) (.slice A5 (nml ((sons x).take k) X.length).length c5) _ _ _ rfl rfl ?bY ?b1 HP2.out.row HP2.out.bd.bel ?bS ?bL ?_; (case bY => rfl); (case b1 => simp [Value.oneCell']); (case bS => exact HP2.out.bd.bel.size); (case bL => have := HA1.out; omega); intro v1 w3 ho hb hg hat; have HP3 := Aside0.mk (HP2.out.append ho hb hg hat); clear ho hb hg hat))
        go_roundg g1
        case measure => omega
        case rel => exact ⟨k + 1, wrap64 ((k : Int) + 1), _, rfl, HW, HKK, ⟨by have := HG.out; omega⟩, ⟨by rw [HSN.out, pnl_snoc, pcl_snoc, nml_snoc, ← List.append_assoc, ← List.append_assoc]; have h := HP3.out; rw [HLX.out, pnl_len] at h; exact h⟩⟩
      · have hke : k = (sons x).length := by have := HK.out; omega
        have d1 : decide ((k : Int) < (r.f2.length : Int)) = false := decide_eq_false (by rw [HF2.out]; omega)
        have d2 : ((k : Int) < (r.f2.length : Int)) = False := eq_false (by rw [HF2.out]; omega)
        have d3 : (k < r.f2.length) = False := eq_false (by rw [HF2.out]; omega)
        have htk : (sons x).take k = sons x := by rw [hke, List.take_length]
        have hp1 := HP1.out
        rw [htk] at hp1
        rw [htk]
        have HPA := Aside0.mk hp1
        clear hk hke htk hp1 HP1 HG HK
        generalize ha1 : nml (sons x) X.length = a1 at HPA ⊢
        have HA1E := Aside0.mk ha1
        clear ha1
        have HA5 := Aside0.mk HPA.out.row.1
        have HP2 : Aside0 (P2 w0 W (wr.alloc (Obj.cells #[] 96)) ok (fun k => ok1 k ∧ k < wr.heap.size) gz W.heap.size #[.int .i64 r.f0, .string r.f1, .slice A r.f2.length c] s N (X ++ pnl (sons x)) (C ++ pcl (sons x) X.length) (.slice A5 a1.length c5) a1 (.slice (some ⟨wr.heap.size, 0, none⟩) 0 0) 0 (fun _ => 0) []) := ⟨by
          have hb2 := below_alloc (Below.refl wr.heap.size wr) (Obj.cells #[] 96)
          have hbw := HPA.out.bd.bel
          have lb := blk_lt HPA.out.box
          have hrow := World.ownsRow_lit (base := w0.heap.size) (e := 96) (size := 1) wr #[] 0 hbw.size (by simp [maxLen]) (by simp)
          refine ⟨HPA.out.below hb2, hrow, fun i hi => by omega, fun i hi => by omega, fun i j hi => by omega, fun k hk => ?_⟩
          have e : k = wr.heap.size := by simpa [Value.ownBlock] using hk.symm
          subst e
          exact ⟨fun a => by omega, by omega, fun e => by have := own_lt HPA.out.row _ e.symm; omega, HPA.out.sz⟩⟩
        clear HPA
        go_wp2
        generalize hws : wr.alloc (Obj.cells #[] 96) = ws at HP2 ⊢
        clear hws
        go_loopg [7, 8] (N + 1) (fun gg v7 v8 w' => ∃ (k : Nat) (kz : Int) (ok2 : Nat → Prop) (g : Nat → Nat) (TC : List Value), v8 = .int .i64 kz ∧ Aside0 (kz = (k : Int)) ∧ Aside0 (k ≤ N) ∧ Aside0 (N + 1 ≤ gg + k) ∧ Aside0 (P2 w0 W w' ok ok2 gz W.heap.size #[.int .i64 r.f0, .string r.f1, .slice A r.f2.length c] s N (X ++ pnl (sons x)) (C ++ pcl (sons x) X.length) (.slice A5 a1.length c5) a1 v7 k g TC))
        case atStart => exact ⟨0, 0, _, _, _, rfl, ⟨rfl⟩, ⟨by omega⟩, ⟨by omega⟩, HP2⟩
        case round =>
          clear HP2
          obtain ⟨k2, kz2, ok2, g, TC, rfl, ⟨rfl⟩, HK2, HG2, HP2⟩ := hrel
          cases gk with
          | zero => exact absurd HG2.out (by have := HK2.out; omega)
          | succ g2 =>
          obtain ⟨A7, c7, e7⟩ := own_slice HP2.out.tab
          subst e7
          have x0 := HP2.out.p1.bd.str
          by_cases hk2 : k2 < N
          · have d1 : decide ((k2 : Int) ≤ (s.size : Int)) = true := decide_eq_true (by have := HNS.out; omega)
            have d2 : ((k2 : Int) ≤ (s.size : Int)) = True := eq_true (by have := HNS.out; omega)
            have d3 : (k2 ≤ s.size) = True := eq_true (by have := HNS.out; omega)
            have hw1 : wrap64 ((s.size : Int) + 1) = (N : Int) := by rw [up1 (by have := HSS.out; omega), ← HNS.out]
            have hmk := make64 wr N (by have := HSS.out; have := HNS.out; omega)
            have HW : Aside0 (wrap64 ((k2 : Int) + 1) = ((k2 + 1 : Nat) : Int)) := ⟨up1 (by have := HSS.out; have := HNS.out; omega)⟩
            have HKN := Aside0.mk hk2
            have HP3 : Aside0 (P2 w0 W (wr.alloc (.cells (encf N (fun _ => 0)) 3)) ok (fun k => ok2 k ∧ k < wr.heap.size) gz W.heap.size #[.int .i64 r.f0, .string r.f1, .slice A r.f2.length c] s N (X ++ pnl (sons x)) (C ++ pcl (sons x) X.length) (.slice A5 a1.length c5) a1 (.slice A7 k2 c7) k2 g TC) := ⟨HP2.out.below (below_alloc (Below.refl _ _) _)⟩
            have HRW : Aside0 ((wr.alloc (.cells (encf N (fun _ => 0)) 3)).heap[wr.heap.size]? = some (.cells (encf N (fun _ => 0)) 3 (0, 0))) := ⟨blk_new _ _⟩
            have HRN : Aside0 (¬ (ok2 wr.heap.size ∧ wr.heap.size < wr.heap.size) ∧ some wr.heap.size ≠ (Value.slice A5 a1.length c5).ownBlock ∧ wr.heap.size ≠ W.heap.size ∧ W.heap.size ≤ wr.heap.size ∧ w0.heap.size ≤ wr.heap.size) := ⟨⟨fun a => by omega, fun e => by have := own_lt HP2.out.p1.row _ e.symm; omega, by have := blk_lt HP2.out.p1.box; omega, HP2.out.p1.sz, HP2.out.p1.bd.bel.size⟩⟩
            have HSA : Aside0 ((wr.alloc (.cells (encf N (fun _ => 0)) 3)).heap.size = wr.heap.size + 1) := ⟨by simp⟩
            have HRG : Aside0 (∀ i, i < k2 → g i ≠ wr.heap.size) := ⟨fun i hi => by have := blk_lt (HP2.out.rows i hi).1; omega⟩
            clear hk2
            go_wp2_with ((with_reducible refine gate_builtin (b := .append) (xs := #[.tmp 37, .tmp 45]) rfl ?_); at_builtin; refine print_append_cells (w0 := w0) w0.heap.size rfl (.tmp 37) (.tmp 45) 80 96 (.slice none 0 0) 1 24 rfl undT infR rfl (by decide) (by omega) (.slice A7 k2 c7) _ _ _ rfl ?hx ?bY ?b1 HP3.out.tab HP3.out.p1.bd.bel ?bS ?bL ?_; (case hx => rw [HSA.out]; rfl); (case bY => rfl); (case b1 => simp [Value.oneCell']); (case bS => exact HP3.out.p1.bd.bel.size); (case bL => have := HKN.out; have := HSS.out; have := HNS.out; omega); intro v1 w3 ho hb hg hat; have HP4 := Aside0.mk (HP3.out.append HRW.out HRN.out HRG.out ho hb hg hat); clear ho hb hg hat)
            go_roundg g2
            case measure => omega
            case rel => exact ⟨k2 + 1, wrap64 ((k2 : Int) + 1), _, _, _, rfl, HW, HKN, ⟨by have := HG2.out; omega⟩, HP4⟩
          · have d1 : decide ((k2 : Int) ≤ (s.size : Int)) = false := decide_eq_false (by have := HNS.out; omega)
            have d2 : ((k2 : Int) ≤ (s.size : Int)) = False := eq_false (by have := HNS.out; omega)
            have d3 : (k2 ≤ s.size) = False := eq_false (by have := HNS.out; omega)
            have hke : k2 = N := by have := HK2.out; omega
            subst k2
            obtain ⟨t7, ct7, _, h7, _, _⟩ := own_some HP2.out.tab (by have := HNS.out; omega)
            injection h7 with h7 _ h7c
            subst h7
            subst h7c
            obtain ⟨b, vn, va, vm, NC, AC, MC, hbd⟩ := HP2.out.p1.bd
            have HBD := Aside0.mk hbd
            obtain ⟨An, cn, en⟩ := own_slice hbd.nod
            subst en
            obtain ⟨X1, hX1⟩ : ∃ X1, X1 = X ++ pnl (sons x) := ⟨_, rfl⟩
            obtain ⟨C1, hC1⟩ : ∃ C1, C1 = C ++ pcl (sons x) X.length := ⟨_, rfl⟩
            rw [← hX1, ← hC1] at HP2
            rw [← hX1] at HBD
            rw [← hC1] at HBD
            rw [← hX1] at hbd
            have z1 := (blk_cell hbd.box 1).trans rfl
            have y0 := (blk_cell HP2.out.p1.box 0).trans rfl
            have y1 := (blk_cell HP2.out.p1.box 1).trans rfl
            have y2 := (blk_cell HP2.out.p1.box 2).trans rfl
            clear hk2 HK2 HG2
            have HZ1 := Aside0.mk z1
            have HY0 := Aside0.mk y0
            have HY1 := Aside0.mk y1
            have HY2 := Aside0.mk y2
            have HX1 := Aside0.mk hX1
            have HC1 := Aside0.mk hC1
            have HLEN : Aside0 (X1.length + 1 ≤ 1000) := ⟨by rw [hX1, List.length_append, pnl_len]; have := HSZ.out; omega⟩
            have p7 : ((0 : Int) ≤ (X1.length : Int)) = True := eq_true (by omega)
            have q7 : ((X1.length : Int) < ((X1.length + 1 : Nat) : Int)) = True := eq_true (by omega)
            have q8 : ((X1.length : Int) < (X1.length : Int) + 1) = True := eq_true (by omega)
            clear hX1 hC1 hbd
            have hu := Try.underlying29
            go_wp2
            refine start_ (n := 13) (S := (fun w' => w'.cell? ⟨gz, 1, none⟩ = some (.slice An X1.length cn) ∧ w'.cell? ⟨W.heap.size, 0, none⟩ = some (.int .i64 r.f0) ∧ w'.cell? ⟨W.heap.size, 1, none⟩ = some (.string r.f1) ∧ w'.cell? ⟨W.heap.size, 2, none⟩ = some (.slice A r.f2.length c))) (ds := [9, 12]) #[false, false, false, false, false, false, false, false, false, false, false, false, false] (by kernel_rfl) rfl rfl (⟨z1, y0, y1, y2⟩) (fun hHeld => ?_); refine with_tabW tabsa11 bitssa11 (fun HT_ HW_ => ?_)
            clear z1 y0 y1 y2 x0
            have hbd' := HBD.out.below (below_drew1 (Below.refl wr.heap.size wr))
            refine pure_ (i := 0) (N := some 47) (v := ?_) (a' := ?_) #[true, false, false, false, false, false, false, false, false, false, false, false, false] rfl rfl (any_of HT_.out (by kernel_rfl)) (fun _ _ _ h => h) (Or.inl ⟨by rfl, ?_⟩) ?_ ?_
            rotate_left
            · intro w'
              go_simp
              with_reducible rfl
            rotate_left
            · simp only [Act.put, List.setIfInBounds_toArray, List.set_cons_zero, List.set_cons_succ, i64_w, i32_w]
              rfl
            refine pure_ (i := 1) (N := some 48) (v := ?_) (a' := ?_) #[true, true, false, false, false, false, false, false, false, false, false, false, false] rfl rfl (any_of HT_.out (by kernel_rfl)) (fun _ _ _ h => h) (Or.inl ⟨by rfl, ?_⟩) ?_ ?_
            rotate_left
            · intro w'
              go_simp
              with_reducible rfl
            rotate_left
            · simp only [Act.put, List.setIfInBounds_toArray, List.set_cons_zero, List.set_cons_succ, i64_w, i32_w]
              rfl
            refine pure_ (i := 2) (N := some 49) (v := ?_) (a' := ?_) #[true, true, true, false, false, false, false, false, false, false, false, false, false] rfl rfl (any_of HT_.out (by kernel_rfl)) (fun _ _ _ h => h) (Or.inl ⟨by rfl, ?_⟩) ?_ ?_
            rotate_left
            · intro w'
              go_simp
              with_reducible rfl
            rotate_left
            · simp only [Act.put, List.setIfInBounds_toArray, List.set_cons_zero, List.set_cons_succ, i64_w, i32_w]
              rfl
            refine take_ (i := 3) (N := some 50) (v := ?_) (a' := ?_) #[true, true, true, true, false, false, false, false, false, false, false, false, false] rfl rfl (take_ofW HT_.out HW_.out (by kernel_rfl)) (fun _ _ _ h => h) (Or.inl ⟨by rfl, ?_⟩) hHeld ?_ ?_
            rotate_left
            · rintro w' ⟨t0, t1, t2, t3⟩
              go_simp
              with_reducible rfl
            rotate_left
            · simp only [Act.put, List.setIfInBounds_toArray, List.set_cons_zero, List.set_cons_succ, i64_w, i32_w]
              rfl
            refine pure_ (i := 5) (N := some 52) (v := ?_) (a' := ?_) #[true, true, true, true, false, true, false, false, false, false, false, false, false] rfl rfl (any_of HT_.out (by kernel_rfl)) (fun _ _ _ h => h) (Or.inl ⟨by rfl, ?_⟩) ?_ ?_
            rotate_left
            · intro w'
              go_simp
              with_reducible rfl
            rotate_left
            · simp only [Act.put, List.setIfInBounds_toArray, List.set_cons_zero, List.set_cons_succ, i64_w, i32_w]
              rfl
            refine take_ (i := 4) (N := some 51) (v := ?_) (a' := ?_) #[true, true, true, true, true, true, false, false, false, false, false, false, false] rfl rfl (take_ofW HT_.out HW_.out (by kernel_rfl)) (fun _ _ _ h => h) (Or.inl ⟨by rfl, ?_⟩) hHeld ?_ ?_
            rotate_left
            · rintro w' ⟨t0, t1, t2, t3⟩
              go_simp
              with_reducible rfl
            rotate_left
            · simp only [Act.put, List.setIfInBounds_toArray, List.set_cons_zero, List.set_cons_succ, i64_w, i32_w]
              rfl
            have hba := below_alloc (Below.refl wr.drew.heap.size wr.drew) (Obj.cells #[.int .i64 0, .string ⟨#[]⟩, .slice none 0 0] 29)
            refine one_ (i := 6) (N := some 53) #[true, true, true, true, true, true, true, false, false, false, false, false, false] rfl rfl (one_of HT_.out (by kernel_rfl)) (by decide) (fun K hK => ?_)
            refine value_ (w1 := ?_) (v := ?_) (by rfl) rfl ?_ ?_
            rotate_left 2
            · go_simp
              constructor
              · rfl
              · rfl
            refine hK.out _ _ (⟨pw_cell_below hba hHeld.1, pw_cell_below hba hHeld.2.1, pw_cell_below hba hHeld.2.2.1, pw_cell_below hba hHeld.2.2.2⟩) (fun hHeld => ?_)
            clear hK K
            refine norm_ (a' := ?_) ?_ ?_
            rotate_left
            · show Act.put _ (some 53) _ = _
              simp only [Act.put, List.setIfInBounds_toArray, List.set_cons_zero, List.set_cons_succ, i64_w, i32_w]
              rfl
            refine one_ (i := 7) (N := some 54) #[true, true, true, true, true, true, true, true, false, false, false, false, false] rfl rfl (one_of HT_.out (by kernel_rfl)) (by decide) (fun K hK => ?_)
            refine step_append_cells (w0 := w0) (W := wr.drew) w0.heap.size ?bw (.tmp 50) (.tmp 53) 27 29 (.agg #[(.int .i64 0), (.string ⟨#[]⟩), (.slice none 0 0)]) 3 48 rfl Try.underlying27 info29 rfl (by decide) (by omega) (.slice An X1.length cn) X1.length NC [.int .i64 0, .string ⟨#[]⟩, .slice none 0 0] ?hs ?hx ?bY ?b1 ?bO ?bB ?bS ?bL ?_
            (case bw => rfl)
            (case hs => rfl)
            (case hx => rfl)
            (case bY => rfl)
            (case b1 => simp [Value.oneCell'])
            (case bO => exact HBD.out.nod)
            (case bB => exact below_drew1 HBD.out.bel)
            (case bS => exact HBD.out.bel.size)
            (case bL => have := HLEN.out; omega)
            intro v1 w1 ho hb hg hat
            obtain ⟨g1, cg1, _, eg1, _, _⟩ := own_some ho (Nat.succ_pos _)
            subst eg1
            have HFN : Aside0 (FN w0 wr gz (Value.slice An X1.length cn).ownBlock s va vm g1 (X1.length + 1) cg1 (.slice An X1.length cn) (NC ++ [.int .i64 0, .string ⟨#[]⟩, .slice none 0 0]) w1) := ⟨⟨ho, blk_grown (w := wr.drew) HBD.out.box hg (own_type HBD.out.nod HBD.out.box (by decide)), fun k hk hn hz => hg.block k hk hn, hb, by
              rcases hat with a | ⟨k, a, a2⟩
              · exact Or.inl (by rw [← a]; simp [Value.ownBlock])
              · right
                have e : g1 = k := by simpa [Value.ownBlock] using a
                rw [e]; exact a2, HBD.out.og.2, hg.size⟩⟩
            have HBB : Aside0 (w1.heap[W.heap.size]? = some (.cells #[.int .i64 r.f0, .string r.f1, .slice A r.f2.length c] 29 (0, 0))) := ⟨blk_grown (w := wr.drew) HP2.out.p1.box hg (fun e => HP2.out.p1.bno (HBD.out.on _ e.symm))⟩
            refine hK.out _ _ (⟨(blk_cell HFN.out.box 1).trans rfl, (blk_cell HBB.out 0).trans rfl, (blk_cell HBB.out 1).trans rfl, (blk_cell HBB.out 2).trans rfl⟩) (fun hHeld => ?_)
            clear hK K
            refine norm_ (a' := ?_) ?_ ?_
            rotate_left
            · show Act.put _ (some 54) _ = _
              simp only [Act.put, List.setIfInBounds_toArray, List.set_cons_zero, List.set_cons_succ, i64_w, i32_w]
              rfl
            clear ho hb hg hat
            refine pure_ (i := 8) (N := some 55) (v := ?_) (a' := ?_) #[true, true, true, true, true, true, true, true, true, false, false, false, false] rfl rfl (any_of HT_.out (by kernel_rfl)) (fun _ _ _ h => h) (Or.inl ⟨by rfl, ?_⟩) ?_ ?_
            rotate_left
            · intro w'
              go_simp
              with_reducible rfl
            rotate_left
            · simp only [Act.put, List.setIfInBounds_toArray, List.set_cons_zero, List.set_cons_succ, i64_w, i32_w]
              rfl
            refine pure_ (i := 10) (N := some 56) (v := ?_) (a' := ?_) #[true, true, true, true, true, true, true, true, true, false, true, false, false] rfl rfl (any_of HT_.out (by kernel_rfl)) (fun _ _ _ h => h) (Or.inl ⟨by rfl, ?_⟩) ?_ ?_
            rotate_left
            · intro w'
              go_simp
              with_reducible rfl
            rotate_left
            · simp only [Act.put, List.setIfInBounds_toArray, List.set_cons_zero, List.set_cons_succ, i64_w, i32_w]
              rfl
            refine pure_ (i := 11) (N := some 57) (v := ?_) (a' := ?_) #[true, true, true, true, true, true, true, true, true, false, true, true, false] rfl rfl (any_of HT_.out (by kernel_rfl)) (fun _ _ _ h => h) (Or.inl ⟨by rfl, ?_⟩) ?_ ?_
            rotate_left
            · intro w'
              go_simp
              with_reducible rfl
            rotate_left
            · simp only [Act.put, List.setIfInBounds_toArray, List.set_cons_zero, List.set_cons_succ, i64_w, i32_w]
              rfl
            have hNL : NC.length = X1.length * 3 := HBD.out.nod.1
            have HNL := Aside0.mk hNL
            clear hNL
            refine join_ (σ := Unit) 0 #[true, true, true, true, true, true, true, true, true, true, true, true, true] (fun _ => []) (fun _ w' => FN w0 wr gz (Value.slice An X1.length cn).ownBlock s va vm g1 (X1.length + 1) cg1 (.slice (some ⟨g1, 0, none⟩) (X1.length + 1) cg1) (NC ++ [.int .i64 r.f0, .string r.f1, .slice A r.f2.length c]) w') ?_ (fun hCont => ?_)
            rotate_left
            · refine two_last_ (i := 9) (j := 12) (Ni := none) (Nj := none) #[true, true, true, true, true, true, true, true, true, true, true, true, false] #[true, true, true, true, true, true, true, true, true, false, true, true, true] rfl rfl rfl rfl (two_of HT_.out (by kernel_rfl)) (by decide) (by decide) (fun K hK => ?_) (fun K hK => ?_)
              · have ha := at3 NC HNL.out (.int .i64 0) (.string ⟨#[]⟩) (.slice none 0 0)
                obtain ⟨hc0, hf0⟩ := HFN.out.cell ha.1
                obtain ⟨hc1, hf1⟩ := HFN.out.cell ha.2.1
                obtain ⟨hc2, hf2⟩ := HFN.out.cell ha.2.2
                clear ha
                have hne := HFN.out.ne
                refine skip_ (w1 := ?_) (by rfl) rfl ?_ ?_
                rotate_left
                · go_simp
                  rfl
                refine hK.out _ _ ?_
                clear hK K hc0 hf0 hc1 hf1 hc2 hf2
                have hfa := ((HFN.out.st (X1.length * 3) (.int .i64 r.f0)).st (X1.length * 3 + 1) (.string r.f1)).st (X1.length * 3 + 2) (.slice A r.f2.length c)
                rw [set3 NC HNL.out] at hfa
                have hz1 := (blk_cell hfa.box 1).trans rfl
                have hz2 := blk_frozen hfa.box 1
                generalize ((w1.setCell ⟨g1, X1.length * 3, none⟩ (.int .i64 r.f0)).setCell ⟨g1, X1.length * 3 + 1, none⟩ (.string r.f1)).setCell ⟨g1, X1.length * 3 + 2, none⟩ (.slice A r.f2.length c) = wa at hfa hz1 hz2 ⊢
                refine last_ (i := 12) (N := none) #[true, true, true, true, true, true, true, true, true, true, true, true, true] rfl rfl (one_of HT_.out (by kernel_rfl)) (by decide) (fun K hK => ?_)
                refine skip_ (w1 := ?_) (by rfl) rfl ?_ ?_
                rotate_left
                · go_simp
                  rfl
                refine hK.out _ _ ?_
                exact hCont () _ (hfa.bx _)
              · have hz1 := (blk_cell HFN.out.box 1).trans rfl
                have hz2 := blk_frozen HFN.out.box 1
                refine skip_ (w1 := ?_) (by rfl) rfl ?_ ?_
                rotate_left
                · go_simp
                  rfl
                refine hK.out _ _ ?_
                clear hK K hz1 hz2
                have hfa := HFN.out.bx (.slice (some ⟨g1, 0, none⟩) (X1.length + 1) cg1)
                generalize w1.setCell ⟨gz, 1, none⟩ (.slice (some ⟨g1, 0, none⟩) (X1.length + 1) cg1) = wa at hfa ⊢
                have ha := at3 NC HNL.out (.int .i64 0) (.string ⟨#[]⟩) (.slice none 0 0)
                obtain ⟨hc0, hf0⟩ := hfa.cell ha.1
                obtain ⟨hc1, hf1⟩ := hfa.cell ha.2.1
                obtain ⟨hc2, hf2⟩ := hfa.cell ha.2.2
                clear ha
                refine last_ (i := 9) (N := none) #[true, true, true, true, true, true, true, true, true, true, true, true, true] rfl rfl (one_of HT_.out (by kernel_rfl)) (by decide) (fun K hK => ?_)
                refine skip_ (w1 := ?_) (by rfl) rfl ?_ ?_
                rotate_left
                · go_simp
                  rfl
                refine hK.out _ _ ?_
                have hfb := ((hfa.st (X1.length * 3) (.int .i64 r.f0)).st (X1.length * 3 + 1) (.string r.f1)).st (X1.length * 3 + 2) (.slice A r.f2.length c)
                rw [set3 NC HNL.out] at hfb
                exact hCont () _ hfb
            · rintro _ w2 hf2
              have HF := Aside0.mk hf2
              clear hf2 HFN HBB hHeld
              refine norm_ (a' := ?_) ?_ ?_
              rotate_left
              · simp only [putAll]
                rfl
              refine done_ (done_of HT_.out (by kernel_rfl)) ?_
              clear HT_ HW_
              obtain ⟨hq1, hq2⟩ := Qs.node HP2.out HBD.out HF0.out HF1.out HF.out
              have HQ1 := Aside0.mk hq1
              have HRN := Aside0.mk hq2
              obtain ⟨Aa, ca, ea⟩ := own_slice hq1.bd.arg
              obtain ⟨Am, cm, em⟩ := own_slice hq1.bd.mem
              subst ea
              subst em
              have z2 := (blk_cell hq1.bd.box 2).trans rfl
              have HLC : Aside0 (C1.length + 1 ≤ 100000) := ⟨by rw [HC1.out, List.length_append, pcl_len, HCX.out]; have := HSZ.out; omega⟩
              clear hq1 hq2
              go_wp2_with (first | ((with_reducible refine gate_builtin (b := .append) (xs := #[.tmp 62, .tmp 64]) rfl ?_); at_builtin; refine print_append_cells (w0 := w0) (W := w2) w0.heap.size rfl (.tmp 62) (.tmp 64) 80 96 (.slice none 0 0) 1 24 rfl undT infR rfl (by decide) (by omega) (.slice Aa C1.length ca) _ _ _ rfl rfl ?bY ?b1 HQ1.out.bd.arg HQ1.out.bd.bel ?bS ?bL ?_; (case bY => rfl); (case b1 => simp [Value.oneCell']); (case bS => exact HQ1.out.bd.bel.size); (case bL => have := HLC.out; omega); intro v1 w3 ho hb hg hat; obtain ⟨Ab, cb, eb⟩ := own_slice ho; subst eb; have HQ2 := Aside0.mk (HQ1.out.args HRN.out ho hb hg hat); have hbx := blk_grown HQ1.out.bd.box hg (own_type HQ1.out.bd.arg HQ1.out.bd.box (by decide)); have n2 := (blk_cell hbx 2).trans rfl; have n2f := blk_frozen hbx 2; have n3 := (blk_cell HQ2.out.bd.box 3).trans rfl; clear ho hb hg hat hbx) | ((with_reducible refine gate_builtin (b := .append) (xs := #[.tmp 72, .tmp 74]) rfl ?_); at_builtin; refine print_append_cells (w0 := w0) (W := w3.setCell ⟨gz, 2, none⟩ (.slice Ab (C1.length + 1) cb)) w0.heap.size rfl (.tmp 72) (.tmp 74) 81 80 (.slice none 0 0) 1 24 rfl undM infT rfl (by decide) (by omega) (.slice Am X1.length cm) _ _ _ rfl ?hx ?bY ?b1 HQ2.out.bd.mem HQ2.out.bd.bel ?bS ?bL ?_; (case hx => first | rfl | (simp [World.setCell]; rfl)); (case bY => rfl); (case b1 => simp [Value.oneCell']); (case bS => exact HQ2.out.bd.bel.size); (case bL => have := HLEN.out; omega); intro v2 w4 ho hb hg hat; obtain ⟨Ac, cc, ec⟩ := own_slice ho; subst ec; have HM := Aside0.mk (HQ2.out.memo ho hb hg hat); have hbx := blk_grown HQ2.out.bd.box hg (own_type HQ2.out.bd.mem HQ2.out.bd.box (by decide)); have m3 := (blk_cell hbx 3).trans rfl; have m3f := blk_frozen hbx 3; have m1 := HM.out.2.2.2; clear ho hb hg hat hbx))
              have hlx : X1.length = X.length + szl (sons x) := by rw [HX1.out, List.length_append, pnl_len]
              have hsk := sz_kids x
              have eX : X1 ++ [x] = X ++ pn x := by rw [HX1.out, pn_kids, ← List.append_assoc]
              have eC : C1 ++ [a1] = C ++ pcs x X.length := by rw [HC1.out, ← HA1E.out, pcs_kids, ← List.append_assoc]
              have eT : X1.length + 1 = X.length + sz x := by omega
              have hm1 := HM.out.1
              rw [eX, eC] at hm1
              have hm2 := HM.out.2.1
              have hm3 := HM.out.2.2.1
              have hew : wrap64 (X1.length : Int) = ((X.length + sz x - 1 : Nat) : Int) := by rw [w64 (by omega) (by have := HLEN.out; omega), show X1.length = X.length + sz x - 1 by omega]
              rw [hew]
              clear hew
              go_ret
              exact ⟨rfl, by rw [← eT]; exact hm1, hm2, hm3⟩
theorem size_alloc2 (w : World) (o : Obj) : (w.alloc o).heap.size = w.heap.size + 1 := by simp
set_option maxHeartbeats 8000000 in
set_option maxRecDepth 100000 in
theorem l4MatchCalls (A : Option Addr) (c : Nat) (r : Tr) (x : Rx) (s : ByteArray) (w : World) (hax : Ax r x) (hsz : sz x ≤ 900) (hs : s.size ≤ 900) (hC : Kd.C k29 w A r.f2.length r.f2) :
    Calls Try.prog 52 #[.agg #[.int .i64 r.f0, .string r.f1, .slice A r.f2.length c], .string s] w fun e w' => e = .returned (.bool (lan x (bytesOf s))) ∧ Below w.heap.size w w' := by
  obtain ⟨N, hN⟩ : ∃ N, N = s.size + 1 := ⟨_, rfl⟩
  have hl : (bytesOf s).length = s.size := len_bytes s
  have hres : mt (bytesOf s) x 0 s.size = lan x (bytesOf s) := by unfold mt sub; rw [← hl, List.take_length, List.drop_zero]
  have hp := sz_pos x
  have HB0 := Aside0.mk (below_alloc (below_alloc (Below.refl w.heap.size w) (Obj.cells #[.int .i64 r.f0, .string r.f1, .slice A r.f2.length c] 29)) (Obj.cells #[.string s, .slice none 0 0, .slice none 0 0, .slice none 0 0] 83))
  have HBZ : Aside0 (((w.alloc (Obj.cells #[.int .i64 r.f0, .string r.f1, .slice A r.f2.length c] 29)).alloc (Obj.cells #[.string s, .slice none 0 0, .slice none 0 0, .slice none 0 0] 83)).heap[w.heap.size + 1]? = some (.cells #[.string s, .slice none 0 0, .slice none 0 0, .slice none 0 0] 83 (0, 0))) := ⟨by have h_ := blk_new (w.alloc (Obj.cells #[.int .i64 r.f0, .string r.f1, .slice A r.f2.length c] 29)) (Obj.cells #[.string s, .slice none 0 0, .slice none 0 0, .slice none 0 0] 83); rw [size_alloc2] at h_; exact h_⟩
  have HBR : Aside0 (((w.alloc (Obj.cells #[.int .i64 r.f0, .string r.f1, .slice A r.f2.length c] 29)).alloc (Obj.cells #[.string s, .slice none 0 0, .slice none 0 0, .slice none 0 0] 83)).heap[w.heap.size]? = some (.cells #[.int .i64 r.f0, .string r.f1, .slice A r.f2.length c] 29 (0, 0))) := ⟨blk_alloc (blk_new w _) _⟩
  have HALL := Aside0.mk (fun W X C ok h1 h2 h3 => addCalls w (w.heap.size + 1) s N hN hs (sz x + 1) x r A c W X C ok (Nat.lt_succ_self _) hax hC h1 h2 h3)
  have k0 := (blk_cell HBR.out 0).trans rfl
  have k1 := (blk_cell HBR.out 1).trans rfl
  have k2 := (blk_cell HBR.out 2).trans rfl
  have HADD : Aside0 (Calls Try.prog 76 #[.pointer (some ⟨w.heap.size + 1, 0, none⟩), .agg #[.int .i64 r.f0, .string r.f1, .slice A r.f2.length c]] ((w.alloc (Obj.cells #[.int .i64 r.f0, .string r.f1, .slice A r.f2.length c] 29)).alloc (Obj.cells #[.string s, .slice none 0 0, .slice none 0 0, .slice none 0 0] 83)) (PostA w ((w.alloc (Obj.cells #[.int .i64 r.f0, .string r.f1, .slice A r.f2.length c] 29)).alloc (Obj.cells #[.string s, .slice none 0 0, .slice none 0 0, .slice none 0 0] 83)) (w.heap.size + 1) s N [] [] (fun _ => True) x)) := ⟨HALL.out _ [] [] (fun _ => True) (by simp only [List.length_nil]; omega) rfl ⟨fun _ _ => 0, .slice none 0 0, .slice none 0 0, .slice none 0 0, [], [], [], HBZ.out, ⟨trivial, Nat.le_succ _⟩, own_nil _ _ _ _, own_nil _ _ _ _, own_nil _ _ _ _, fun _ _ => trivial, fun _ _ => trivial, fun _ _ => trivial, fun n y h => by simp at h, fun n y h => by simp at h, fun n h => by simp at h, fun n i h => by simp at h, fun n i n' i' h => by simp at h, HB0.out⟩⟩
  have HIS : Aside0 (∀ W, Bdx w W (w.heap.size + 1) s N (pn x) (pcs x 0) (sz x) (fun _ => True) → Calls Try.prog 77 #[.pointer (some ⟨w.heap.size + 1, 0, none⟩), .int .i64 ((sz x - 1 : Nat) : Int), .int .i64 0, .int .i64 s.size] W (fun e w' => e = .returned (.bool (lan x (bytesOf s))) ∧ Below w.heap.size w w')) := ⟨fun W hbx => by
    obtain ⟨b, vn, va, vm, NC, AC, MC, h⟩ := hbx
    have eT : sz x = (pn x).length := (pn_len x).symm
    rw [eT] at h
    obtain ⟨an, aa, am, lay, ms⟩ := h.lay (by rw [pcs_len, pn_len]) (by rw [← eT]; omega)
    have hg : Good (pn x) (pcs x 0) := good_build x [] [] ⟨rfl, fun n y c h => by simp at h⟩
    have hn : sz x - 1 < (pn x).length := by rw [← eT]; omega
    have hlast := pn_last x []
    simp only [List.length_nil, Nat.zero_add, List.nil_append] at hlast
    have := isAll w W (w.heap.size + 1) s N _ _ b an aa am (fun n i j => mt (bytesOf s) ((pn x).getD n .none) i j) lay hg hN hs (by rw [← eT]; omega) (fun n y hy i j => by rw [List.getD_eq_getElem?_getD, hy]; rfl) (sz x) (sz x - 1) (by omega) hn 0 s.size W (fun _ _ _ => 0) (Nat.zero_le _) (by omega) (fun _ _ _ _ => Or.inl rfl) ms
    refine this.mono (fun e w' hpost => ?_)
    obtain ⟨he, V', _, hms⟩ := hpost
    refine ⟨?_, hms.bel⟩
    rw [he]
    show Ending.returned (.bool (mt (bytesOf s) ((pn x).getD (sz x - 1) .none) 0 s.size)) = _
    rw [List.getD_eq_getElem?_getD, hlast]
    show Ending.returned (.bool (mt (bytesOf s) x 0 s.size)) = _
    rw [hres]⟩
  generalize lan x (bytesOf s) = res at HIS ⊢
  clear hN hl hres hp hax hC hsz hs HALL
  go_enter Try.func52, Try.ntmps52
  go_wp2_with (first | (go_at_call 76; (with_reducible refine HADD.out.mono ?_); rintro e w2 ⟨he, hb2, _, _⟩; simp only [List.length_nil, Nat.zero_add, List.nil_append] at he hb2; subst he; have HI2 := Aside0.mk (HIS.out w2 (hb2.mono (fun _ _ => trivial))); clear hb2) | (go_at_call 77; (with_reducible refine HI2.out.mono ?_); rintro e w3 ⟨rfl, hb3⟩; have HB3 := Aside0.mk hb3; clear hb3))
  go_ret
  exact ⟨rfl, HB3.out⟩
end Go.Proofs.Ytldgkgdgcfllmaa.Rg
end
section
namespace Go.Proofs.Ytldgkgdgcfllmaa.P
open Go.RowKit Go.Proofs.YtldgkgdgcfllmaaW.PrintWords Go.Proofs.YtldgkgdgcfllmaaW.PrintLast Go.Proofs.YtldgkgdgcfllmaaW.PrintMore
attribute [local go_sem] max2_int min2_int max_two min_two max_three min_three max_four min_four
set_option linter.unusedVariables false
set_option linter.unusedSimpArgs false
def spec_l4Match.f (a0_0 : Int) (a0_1 : ByteArray) (l0_2 : List S29) (a1 : ByteArray) : Option Bool := Rg.matchF ⟨a0_0, a0_1, l0_2⟩ a1
theorem spec_l4Match.calls (a0_0 : Int) (a0_1 : ByteArray) (A0_2 : Option Addr) (c0_2 : Nat) (l0_2 : List S29) (a1 : ByteArray) (r : Bool) (w : World) (hr0_2 : Kd.C k29 w A0_2 l0_2.length l0_2) (hc0_2 : l0_2.length ≤ c0_2) (h : spec_l4Match.f a0_0 a0_1 l0_2 a1 = some r) :
    Calls Try.prog 52 #[.agg #[.int .i64 a0_0, .string a0_1, .slice A0_2 l0_2.length c0_2], .string a1] w fun e w' => e = .returned (.bool r) ∧ Below w.heap.size w w' := by
  obtain ⟨x, h1, h2, h3, rfl⟩ := Rg.matchF_some h
  exact Rg.l4MatchCalls A0_2 c0_2 ⟨a0_0, a0_1, l0_2⟩ x a1 w h1 (by omega) (by omega) hr0_2
end Go.Proofs.Ytldgkgdgcfllmaa.P
end
section
namespace Go.Proofs.Ytldgkgdgcfllmaa.P
open Go.RowKit Go.Proofs.YtldgkgdgcfllmaaW.PrintWords Go.Proofs.YtldgkgdgcfllmaaW.PrintLast Go.Proofs.YtldgkgdgcfllmaaW.PrintMore
attribute [local go_sem] max2_int min2_int max_two min_two max_three min_three max_four min_four
set_option linter.unusedVariables false
set_option linter.unusedSimpArgs false
def spec_MatchRegex.f (k : Nat) (a0_0 : Int) (a0_1 : ByteArray) (l0_2 : List (S29)) (a1 : ByteArray) : Option (Bool) := (spec_IsValidRegex.f k a0_0 a0_1 l0_2).bind fun t535 => (if t535 = true then ((spec_IsWord.f k a1).bind fun t536 => (if t536 = true then ((spec_l4Match.f a0_0 a0_1 l0_2 a1).bind fun t537 => (some t537)) else (some false))) else (some false))
theorem spec_MatchRegex.mono : ∀ a0 a1 a2 a3 k, LeO (spec_MatchRegex.f k a0 a1 a2 a3) (spec_MatchRegex.f (k + 1) a0 a1 a2 a3) := by
  intro a0 a1 a2 a3 k
  unfold spec_MatchRegex.f
  repeat' first
      | (with_reducible exact spec_IsValidRegex.mono _ _ _ _)
      | (with_reducible exact spec_IsWord.mono _ _)
      | (with_reducible exact LeO.refl _)
      | (with_reducible exact LeO.none _)
      | (with_reducible refine LeO.ite ?_ ?_)
      | (with_reducible refine LeO.bind ?_ (fun _ => ?_))
      | exact spec_IsValidRegex.mono _ _ _ _
      | exact spec_IsWord.mono _ _
      | exact LeO.none _
      | refine LeO.ite ?_ ?_
      | refine LeO.bind ?_ (fun _ => ?_)
set_option maxHeartbeats 8000000 in
set_option maxRecDepth 100000 in
theorem spec_MatchRegex.calls (k : Nat) (a0_0 : Int) (a0_1 : ByteArray) (A0_2 : Option Addr) (c0_2 : Nat) (l0_2 : List (S29)) (a1 : ByteArray) (r : Bool) (w : World) (hr0_2 : Kd.C k29 w A0_2 l0_2.length l0_2) (hc0_2 : l0_2.length ≤ c0_2) (h : spec_MatchRegex.f k a0_0 a0_1 l0_2 a1 = some r) :
    Calls Try.prog 25 #[.agg #[.int .i64 a0_0, .string a0_1, .slice A0_2 l0_2.length c0_2], .string a1] w fun e w' => e = .returned (.bool r) ∧ Below w.heap.size w w' := by
  have hu29 := Try.underlying29
  have HR0_2 := Aside0.mk hr0_2
  have HC0_2 := Aside0.mk hc0_2
  clear hr0_2 hc0_2
  have HB := Aside0.mk (Below.refl w.heap.size w)
  have H : ((spec_IsValidRegex.f k a0_0 a0_1 l0_2).bind fun t535 => (if t535 = true then ((spec_IsWord.f k a1).bind fun t536 => (if t536 = true then ((spec_l4Match.f a0_0 a0_1 l0_2 a1).bind fun t537 => (some t537)) else (some false))) else (some false))) = some r := h
  clear h
  replace H := Option.bind_eq_some_iff.mp H
  obtain ⟨t535, A30, H⟩ := H
  replace H : (if t535 = true then ((spec_IsWord.f k a1).bind fun t536 => (if t536 = true then ((spec_l4Match.f a0_0 a0_1 l0_2 a1).bind fun t537 => (some t537)) else (some false))) else (some false)) = some r := H
  have A3 := Aside0.mk A30
  clear A30
  by_cases c4 : t535 = true
  · subst c4
    have H1 : ((spec_IsWord.f k a1).bind fun t536 => (if t536 = true then ((spec_l4Match.f a0_0 a0_1 l0_2 a1).bind fun t537 => (some t537)) else (some false))) = some r := by rw [if_pos rfl] at H; exact H
    clear H
    have H := H1
    clear H1
    replace H := Option.bind_eq_some_iff.mp H
    obtain ⟨t536, A50, H⟩ := H
    replace H : (if t536 = true then ((spec_l4Match.f a0_0 a0_1 l0_2 a1).bind fun t537 => (some t537)) else (some false)) = some r := H
    have A5 := Aside0.mk A50
    clear A50
    by_cases c6 : t536 = true
    · subst c6
      have H1 : ((spec_l4Match.f a0_0 a0_1 l0_2 a1).bind fun t537 => (some t537)) = some r := by rw [if_pos rfl] at H; exact H
      clear H
      have H := H1
      clear H1
      replace H := Option.bind_eq_some_iff.mp H
      obtain ⟨t537, A70, H⟩ := H
      replace H : (some t537) = some r := H
      have A7 := Aside0.mk A70
      clear A70
      obtain rfl := Option.some.inj H
      simp only [Option.some.injEq, Prod.mk.injEq] at H
      obtain ⟨rfl⟩ := H
      go_enter Try.func25, Try.ntmps25
      go_wp2_with (first | ((with_reducible refine gate_dst (N := 2) rfl ?_); refine box_event ?hg (N := 2) ?hd (cs := #[.int .i64 a0_0, .string a0_1, .slice A0_2 l0_2.length c0_2]) (t := 29) ?hr ?_; (case hd => rfl); (case hg => rfl); (case hr => first | (go_simp; done) | (go_simp; rfl)); intro gb534 hg w8 hbox hb; have n0_ := Aside0.mk (below_step (by repeat (first | (with_reducible first | exact HB.out | apply below_alloc | apply pw_below_drewN | apply below_drew1) | exact HB.out)) hb); have n1_ := Aside0.mk (hbox); have n2_ := Aside0.mk ((by rw [hg]; exact (below_size (by repeat (first | (with_reducible first | exact HB.out | apply below_alloc | apply pw_below_drewN | apply below_drew1) | exact HB.out))) : w.heap.size ≤ gb534)); have n3_ := Aside0.mk ((by rw [hg]; exact (below_size (by repeat (first | (with_reducible first | exact HB.out | apply below_alloc | apply pw_below_drewN | apply below_drew1) | exact HB.out))) : w.heap.size ≤ gb534)); clear HB; have HB := n0_; have BK534 := n1_; have GW534 := n2_; have GE534 := n3_; clear n0_ n1_ n2_ n3_; clear hb hbox hg; have hcz9_0 : w8.cell? ⟨gb534, 0, none⟩ = some (.int .i64 a0_0) := (blk_cell BK534.out 0).trans rfl; have hcz9_1 : w8.cell? ⟨gb534, 1, none⟩ = some (.string a0_1) := (blk_cell BK534.out 1).trans rfl; have hcz9_2 : w8.cell? ⟨gb534, 2, none⟩ = some (.slice A0_2 l0_2.length c0_2) := (blk_cell BK534.out 2).trans rfl; have hfz9_0 := blk_frozen BK534.out 0; have hfz9_1 := blk_frozen BK534.out 1; have hfz9_2 := blk_frozen BK534.out 2) | ((with_reducible refine gate_callee (f := 17) rfl ?_); refine goesL_ (some 6) rfl rfl Try.func17 (by kernel_rfl) rfl #[.agg #[.int .i64 a0_0, .string a0_1, .slice A0_2 l0_2.length c0_2]] rfl (by (try simp only [List.map_toArray, List.map_cons, List.map_nil]); first | done | rfl | (simp only [List.length_drop, List.length_take]; rfl)) ?_; (with_reducible refine (spec_IsValidRegex.calls k a0_0 a0_1 _ _ l0_2 true _ ?side1 ?side2 A3.out).mono ?_); (case side1 => repeat (first | exact (Kd.C_below HR0_2.out HB.out) | (with_reducible refine Kd.C_alloc ?_ _) | (with_reducible refine Kd.C_drewN ?_ _) | (with_reducible refine Kd.C_drew ?_))); (case side2 => exact HC0_2.out); rintro e w10 ⟨rfl, hb⟩; refine ⟨_, rfl, ?_⟩; have n0_ := Aside0.mk (blk_below (g := gb534) (o := .cells #[.int .i64 a0_0, .string a0_1, .slice A0_2 l0_2.length c0_2] 29 (0, 0)) (by (with_reducible repeat (first | refine blk_drewN ?_ _ | refine blk_drew ?_ | refine blk_alloc ?_ _)); exact BK534.out) hb); have n1_ := Aside0.mk (below_step (by repeat (first | (with_reducible first | exact HB.out | apply below_alloc | apply pw_below_drewN | apply below_drew1 | refine below_set ?_ GE534.out) | exact HB.out)) hb); clear BK534; clear HB; have BK534 := n0_; have HB := n1_; clear n0_ n1_; (try clear hb); (try clear hb2); (try clear hk); (try clear hi)) | (go_at_call 51; (with_reducible refine (spec_IsWord.calls k a1 true _ A5.out).mono ?_); rintro e w' ⟨rfl, ⟨nd, rfl⟩⟩; have hcz11_0 : w10.cell? ⟨gb534, 0, none⟩ = some (.int .i64 a0_0) := (blk_cell BK534.out 0).trans rfl; have hcz11_1 : w10.cell? ⟨gb534, 1, none⟩ = some (.string a0_1) := (blk_cell BK534.out 1).trans rfl; have hcz11_2 : w10.cell? ⟨gb534, 2, none⟩ = some (.slice A0_2 l0_2.length c0_2) := (blk_cell BK534.out 2).trans rfl; have hfz11_0 := blk_frozen BK534.out 0; have hfz11_1 := blk_frozen BK534.out 1; have hfz11_2 := blk_frozen BK534.out 2) | (go_at_call 52; (with_reducible refine (spec_l4Match.calls a0_0 a0_1 _ _ l0_2 a1 t537 _ ?side1 ?side2 A7.out).mono ?_); (case side1 => repeat (first | exact (Kd.C_below HR0_2.out (by repeat (first | (with_reducible first | exact HB.out | apply below_alloc | apply pw_below_drewN | apply below_drew1 | refine below_set ?_ GE534.out) | exact HB.out))) | (with_reducible refine Kd.C_alloc ?_ _) | (with_reducible refine Kd.C_drewN ?_ _) | (with_reducible refine Kd.C_drew ?_))); (case side2 => exact HC0_2.out); rintro e w12 ⟨rfl, hb⟩; have n0_ := Aside0.mk (blk_below (g := gb534) (o := .cells #[.int .i64 a0_0, .string a0_1, .slice A0_2 l0_2.length c0_2] 29 (0, 0)) (by (with_reducible repeat (first | refine blk_drewN ?_ _ | refine blk_drew ?_ | refine blk_alloc ?_ _)); exact BK534.out) hb); have n1_ := Aside0.mk (below_step (by repeat (first | (with_reducible first | exact HB.out | apply below_alloc | apply pw_below_drewN | apply below_drew1 | refine below_set ?_ GE534.out) | exact HB.out)) hb); clear BK534; clear HB; have BK534 := n0_; have HB := n1_; clear n0_ n1_; (try clear hb); (try clear hb2); (try clear hk); (try clear hi)))
      go_ret
      exact ⟨by first | rfl | (simp [errW_none, errW_some] <;> rfl) | (simp [*, errW_none, errW_some] <;> rfl), by repeat (first | (with_reducible first | exact HB.out | apply below_alloc | apply pw_below_drewN | apply below_drew1 | refine below_set ?_ GE534.out) | exact HB.out)⟩
    · replace c6 := Bool.eq_false_iff.mpr c6
      subst c6
      have H1 : (some false) = some r := by rw [if_neg (show ¬ (false = true) by decide)] at H; exact H
      clear H
      have H := H1
      clear H1
      obtain rfl := Option.some.inj H
      simp only [Option.some.injEq, Prod.mk.injEq] at H
      obtain ⟨rfl⟩ := H
      go_enter Try.func25, Try.ntmps25
      go_wp2_with (first | ((with_reducible refine gate_dst (N := 2) rfl ?_); refine box_event ?hg (N := 2) ?hd (cs := #[.int .i64 a0_0, .string a0_1, .slice A0_2 l0_2.length c0_2]) (t := 29) ?hr ?_; (case hd => rfl); (case hg => rfl); (case hr => first | (go_simp; done) | (go_simp; rfl)); intro gb534 hg w13 hbox hb; have n0_ := Aside0.mk (below_step (by repeat (first | (with_reducible first | exact HB.out | apply below_alloc | apply pw_below_drewN | apply below_drew1) | exact HB.out)) hb); have n1_ := Aside0.mk (hbox); have n2_ := Aside0.mk ((by rw [hg]; exact (below_size (by repeat (first | (with_reducible first | exact HB.out | apply below_alloc | apply pw_below_drewN | apply below_drew1) | exact HB.out))) : w.heap.size ≤ gb534)); have n3_ := Aside0.mk ((by rw [hg]; exact (below_size (by repeat (first | (with_reducible first | exact HB.out | apply below_alloc | apply pw_below_drewN | apply below_drew1) | exact HB.out))) : w.heap.size ≤ gb534)); clear HB; have HB := n0_; have BK534 := n1_; have GW534 := n2_; have GE534 := n3_; clear n0_ n1_ n2_ n3_; clear hb hbox hg; have hcz14_0 : w13.cell? ⟨gb534, 0, none⟩ = some (.int .i64 a0_0) := (blk_cell BK534.out 0).trans rfl; have hcz14_1 : w13.cell? ⟨gb534, 1, none⟩ = some (.string a0_1) := (blk_cell BK534.out 1).trans rfl; have hcz14_2 : w13.cell? ⟨gb534, 2, none⟩ = some (.slice A0_2 l0_2.length c0_2) := (blk_cell BK534.out 2).trans rfl; have hfz14_0 := blk_frozen BK534.out 0; have hfz14_1 := blk_frozen BK534.out 1; have hfz14_2 := blk_frozen BK534.out 2) | ((with_reducible refine gate_callee (f := 17) rfl ?_); refine goesL_ (some 6) rfl rfl Try.func17 (by kernel_rfl) rfl #[.agg #[.int .i64 a0_0, .string a0_1, .slice A0_2 l0_2.length c0_2]] rfl (by (try simp only [List.map_toArray, List.map_cons, List.map_nil]); first | done | rfl | (simp only [List.length_drop, List.length_take]; rfl)) ?_; (with_reducible refine (spec_IsValidRegex.calls k a0_0 a0_1 _ _ l0_2 true _ ?side1 ?side2 A3.out).mono ?_); (case side1 => repeat (first | exact (Kd.C_below HR0_2.out HB.out) | (with_reducible refine Kd.C_alloc ?_ _) | (with_reducible refine Kd.C_drewN ?_ _) | (with_reducible refine Kd.C_drew ?_))); (case side2 => exact HC0_2.out); rintro e w15 ⟨rfl, hb⟩; refine ⟨_, rfl, ?_⟩; have n0_ := Aside0.mk (blk_below (g := gb534) (o := .cells #[.int .i64 a0_0, .string a0_1, .slice A0_2 l0_2.length c0_2] 29 (0, 0)) (by (with_reducible repeat (first | refine blk_drewN ?_ _ | refine blk_drew ?_ | refine blk_alloc ?_ _)); exact BK534.out) hb); have n1_ := Aside0.mk (below_step (by repeat (first | (with_reducible first | exact HB.out | apply below_alloc | apply pw_below_drewN | apply below_drew1 | refine below_set ?_ GE534.out) | exact HB.out)) hb); clear BK534; clear HB; have BK534 := n0_; have HB := n1_; clear n0_ n1_; (try clear hb); (try clear hb2); (try clear hk); (try clear hi)) | (go_at_call 51; (with_reducible refine (spec_IsWord.calls k a1 false _ A5.out).mono ?_); rintro e w' ⟨rfl, ⟨nd, rfl⟩⟩))
      go_ret
      exact ⟨by first | rfl | (simp [errW_none, errW_some] <;> rfl) | (simp [*, errW_none, errW_some] <;> rfl), by repeat (first | (with_reducible first | exact HB.out | apply below_alloc | apply pw_below_drewN | apply below_drew1 | refine below_set ?_ GE534.out) | exact HB.out)⟩
  · replace c4 := Bool.eq_false_iff.mpr c4
    subst c4
    have H1 : (some false) = some r := by rw [if_neg (show ¬ (false = true) by decide)] at H; exact H
    clear H
    have H := H1
    clear H1
    obtain rfl := Option.some.inj H
    simp only [Option.some.injEq, Prod.mk.injEq] at H
    obtain ⟨rfl⟩ := H
    go_enter Try.func25, Try.ntmps25
    go_wp2_with (first | ((with_reducible refine gate_dst (N := 2) rfl ?_); refine box_event ?hg (N := 2) ?hd (cs := #[.int .i64 a0_0, .string a0_1, .slice A0_2 l0_2.length c0_2]) (t := 29) ?hr ?_; (case hd => rfl); (case hg => rfl); (case hr => first | (go_simp; done) | (go_simp; rfl)); intro gb534 hg w16 hbox hb; have n0_ := Aside0.mk (below_step (by repeat (first | (with_reducible first | exact HB.out | apply below_alloc | apply pw_below_drewN | apply below_drew1) | exact HB.out)) hb); have n1_ := Aside0.mk (hbox); have n2_ := Aside0.mk ((by rw [hg]; exact (below_size (by repeat (first | (with_reducible first | exact HB.out | apply below_alloc | apply pw_below_drewN | apply below_drew1) | exact HB.out))) : w.heap.size ≤ gb534)); have n3_ := Aside0.mk ((by rw [hg]; exact (below_size (by repeat (first | (with_reducible first | exact HB.out | apply below_alloc | apply pw_below_drewN | apply below_drew1) | exact HB.out))) : w.heap.size ≤ gb534)); clear HB; have HB := n0_; have BK534 := n1_; have GW534 := n2_; have GE534 := n3_; clear n0_ n1_ n2_ n3_; clear hb hbox hg; have hcz17_0 : w16.cell? ⟨gb534, 0, none⟩ = some (.int .i64 a0_0) := (blk_cell BK534.out 0).trans rfl; have hcz17_1 : w16.cell? ⟨gb534, 1, none⟩ = some (.string a0_1) := (blk_cell BK534.out 1).trans rfl; have hcz17_2 : w16.cell? ⟨gb534, 2, none⟩ = some (.slice A0_2 l0_2.length c0_2) := (blk_cell BK534.out 2).trans rfl; have hfz17_0 := blk_frozen BK534.out 0; have hfz17_1 := blk_frozen BK534.out 1; have hfz17_2 := blk_frozen BK534.out 2) | ((with_reducible refine gate_callee (f := 17) rfl ?_); refine goesL_ (some 6) rfl rfl Try.func17 (by kernel_rfl) rfl #[.agg #[.int .i64 a0_0, .string a0_1, .slice A0_2 l0_2.length c0_2]] rfl (by (try simp only [List.map_toArray, List.map_cons, List.map_nil]); first | done | rfl | (simp only [List.length_drop, List.length_take]; rfl)) ?_; (with_reducible refine (spec_IsValidRegex.calls k a0_0 a0_1 _ _ l0_2 false _ ?side1 ?side2 A3.out).mono ?_); (case side1 => repeat (first | exact (Kd.C_below HR0_2.out HB.out) | (with_reducible refine Kd.C_alloc ?_ _) | (with_reducible refine Kd.C_drewN ?_ _) | (with_reducible refine Kd.C_drew ?_))); (case side2 => exact HC0_2.out); rintro e w18 ⟨rfl, hb⟩; refine ⟨_, rfl, ?_⟩; have n0_ := Aside0.mk (blk_below (g := gb534) (o := .cells #[.int .i64 a0_0, .string a0_1, .slice A0_2 l0_2.length c0_2] 29 (0, 0)) (by (with_reducible repeat (first | refine blk_drewN ?_ _ | refine blk_drew ?_ | refine blk_alloc ?_ _)); exact BK534.out) hb); have n1_ := Aside0.mk (below_step (by repeat (first | (with_reducible first | exact HB.out | apply below_alloc | apply pw_below_drewN | apply below_drew1 | refine below_set ?_ GE534.out) | exact HB.out)) hb); clear BK534; clear HB; have BK534 := n0_; have HB := n1_; clear n0_ n1_; (try clear hb); (try clear hb2); (try clear hk); (try clear hi)))
    go_ret
    exact ⟨by first | rfl | (simp [errW_none, errW_some] <;> rfl) | (simp [*, errW_none, errW_some] <;> rfl), by repeat (first | (with_reducible first | exact HB.out | apply below_alloc | apply pw_below_drewN | apply below_drew1 | refine below_set ?_ GE534.out) | exact HB.out)⟩
mutual
def impl_size.l0 : Nat → Int → List (S29) → Int → Int → Option (Int)
  | 0, _, _, _, _ => none
  | k + 1, x3, x7, x8, x9 => if x9 < x8 then (if 0 ≤ x9 then (if x9 < (x7.length : Int) then ((impl_size.f k ((rd_T29 x7 x9).f0) ((rd_T29 x7 x9).f1) ((rd_T29 x7 x9).f2)).bind fun t541 => (impl_size.l0 k (wrap64 (x3 + t541)) x7 x8 (wrap64 (x9 + 1)))) else (none)) else (none)) else (some x3)
def impl_size.f : Nat → Int → ByteArray → List (S29) → Option (Int)
  | 0, _, _, _ => none
  | k + 1, a0_0, a0_1, l0_2 => impl_size.l0 k 1 l0_2 (l0_2.length : Int) 0
end
theorem impl_size.mono_l : ∀ k, (∀ y0 y1 y2, LeO (impl_size.f k y0 y1 y2) (impl_size.f (k + 1) y0 y1 y2)) ∧ (∀ y0 y1 y2 y3, LeO (impl_size.l0 k y0 y1 y2 y3) (impl_size.l0 (k + 1) y0 y1 y2 y3))
  | 0 => ⟨fun _ _ _ r h => by simp [impl_size.f] at h, fun _ _ _ _ r h => by simp [impl_size.l0] at h⟩
  | k + 1 => by
    obtain ⟨ih0, ih1⟩ := impl_size.mono_l k
    refine ⟨?_, ?_⟩
    · intro y0 y1 y2
      unfold impl_size.f
      repeat' first
      | (with_reducible exact ih0 _ _ _)
      | (with_reducible exact ih1 _ _ _ _)
      | (with_reducible exact LeO.refl _)
      | (with_reducible exact LeO.none _)
      | (with_reducible refine LeO.ite ?_ ?_)
      | (with_reducible refine LeO.bind ?_ (fun _ => ?_))
      | exact ih0 _ _ _
      | exact ih1 _ _ _ _
      | exact LeO.none _
      | refine LeO.ite ?_ ?_
      | refine LeO.bind ?_ (fun _ => ?_)
    · intro y0 y1 y2 y3
      unfold impl_size.l0
      repeat' first
      | (with_reducible exact ih0 _ _ _)
      | (with_reducible exact ih1 _ _ _ _)
      | (with_reducible exact LeO.refl _)
      | (with_reducible exact LeO.none _)
      | (with_reducible refine LeO.ite ?_ ?_)
      | (with_reducible refine LeO.bind ?_ (fun _ => ?_))
      | exact ih0 _ _ _
      | exact ih1 _ _ _ _
      | exact LeO.none _
      | refine LeO.ite ?_ ?_
      | refine LeO.bind ?_ (fun _ => ?_)
theorem impl_size.mono : ∀ a0 a1 a2 k, LeO (impl_size.f k a0 a1 a2) (impl_size.f (k + 1) a0 a1 a2) := by
  intro a0 a1 a2 k
  obtain ⟨ih0, ih1⟩ := impl_size.mono_l k
  exact ih0 a0 a1 a2
set_option maxHeartbeats 8000000 in
set_option maxRecDepth 100000 in
theorem impl_size.calls (k : Nat) : ∀ (a0_0 : Int) (a0_1 : ByteArray) (A0_2 : Option Addr) (c0_2 : Nat) (l0_2 : List (S29)) (r : Int) (w : World) (hr0_2 : Kd.C k29 w A0_2 l0_2.length l0_2) (hc0_2 : l0_2.length ≤ c0_2) (h : impl_size.f k a0_0 a0_1 l0_2 = some r),
    Calls Try.prog 79 #[.agg #[.int .i64 a0_0, .string a0_1, .slice A0_2 l0_2.length c0_2]] w fun e w' => e = .returned (.int .i64 r) ∧ Below w.heap.size w w' := by
  induction k using Nat.strongRecOn with
  | _ k ih =>
  intro a0_0 a0_1 A0_2 c0_2 l0_2 r w hr0_2 hc0_2 h
  cases k with
  | zero => exact absurd h (by simp [impl_size.f])
  | succ k =>
  simp only [impl_size.f] at h
  have hu29 := Try.underlying29
  have HR0_2 := Aside0.mk hr0_2
  have HC0_2 := Aside0.mk hc0_2
  clear hr0_2 hc0_2
  have HB := Aside0.mk (Below.refl w.heap.size w)
  have H : (impl_size.l0 k 1 l0_2 (l0_2.length : Int) 0) = some r := h
  clear h
  have H' := Aside0.mk H
  clear H
  go_enter Try.func79, Try.ntmps79
  go_wp2_with (first | ((with_reducible refine gate_dst (N := 1) rfl ?_); refine box_event ?hg (N := 1) ?hd (cs := #[.int .i64 a0_0, .string a0_1, .slice A0_2 l0_2.length c0_2]) (t := 29) ?hr ?_; (case hd => rfl); (case hg => rfl); (case hr => first | (go_simp; done) | (go_simp; rfl)); intro gb538 hg w2 hbox hb; have n0_ := Aside0.mk (below_step (by repeat (first | (with_reducible first | exact HB.out | apply below_alloc | apply pw_below_drewN | apply below_drew1) | exact HB.out)) hb); have n1_ := Aside0.mk (hbox); have n2_ := Aside0.mk ((by rw [hg]; exact (below_size (by repeat (first | (with_reducible first | exact HB.out | apply below_alloc | apply pw_below_drewN | apply below_drew1) | exact HB.out))) : w.heap.size ≤ gb538)); have n3_ := Aside0.mk ((by rw [hg]; exact (below_size (by repeat (first | (with_reducible first | exact HB.out | apply below_alloc | apply pw_below_drewN | apply below_drew1) | exact HB.out))) : w.heap.size ≤ gb538)); clear HB; have HB := n0_; have BK538 := n1_; have GW538 := n2_; have GE538 := n3_; clear n0_ n1_ n2_ n3_; clear hb hbox hg; have hcz3_0 : w2.cell? ⟨gb538, 0, none⟩ = some (.int .i64 a0_0) := (blk_cell BK538.out 0).trans rfl; have hcz3_1 : w2.cell? ⟨gb538, 1, none⟩ = some (.string a0_1) := (blk_cell BK538.out 1).trans rfl; have hcz3_2 : w2.cell? ⟨gb538, 2, none⟩ = some (.slice A0_2 l0_2.length c0_2) := (blk_cell BK538.out 2).trans rfl; have hfz3_0 := blk_frozen BK538.out 0; have hfz3_1 := blk_frozen BK538.out 1; have hfz3_2 := blk_frozen BK538.out 2))
  go_loopg [3, 9] k (fun kq v3 v9 w' => ∃ (x3_1 : Int) (x9_1 : Int), v3 = .int .i64 x3_1 ∧ v9 = .int .i64 x9_1 ∧ Aside0 (impl_size.l0 kq x3_1 l0_2 (l0_2.length : Int) x9_1 = some r) ∧ Aside0 (kq ≤ k) ∧ Aside0 (w'.heap[gb538]? = some (.cells #[.int .i64 a0_0, .string a0_1, (.slice A0_2 l0_2.length c0_2)] 29 (0, 0))) ∧ Aside0 (Below w.heap.size w w'))
  case atStart => exact ⟨(1), (0), (by first | rfl | (simp; done) | (simp [*]; done)), (by first | rfl | (simp; done) | (simp [*]; done)), H', ⟨Nat.le_refl _⟩, ⟨by (with_reducible repeat (first | refine blk_drewN ?_ _ | refine blk_drew ?_ | refine blk_alloc ?_ _)); exact BK538.out⟩, ⟨by repeat (first | (with_reducible first | exact HB.out | apply below_alloc | apply pw_below_drewN | apply below_drew1 | refine below_set ?_ GE538.out) | exact HB.out)⟩⟩
  case round =>
    clear H'
    try clear p2
    try clear hcz3_0
    try clear hcz3_1
    try clear hcz3_2
    try clear hfz3_0
    try clear hfz3_1
    try clear hfz3_2
    obtain ⟨x3_1, x9_1, rfl, rfl, HA, HK1, BK538, HB⟩ := hrel
    cases gk with
    | zero => exact absurd HA.out (by simp [impl_size.l0])
    | succ k1 =>
      have H := HA.out
      clear HA
      simp only [impl_size.l0] at H
      by_cases c4 : x9_1 < (l0_2.length : Int)
      · rw [if_pos c4] at H
        have c4b0 : decide (x9_1 < (l0_2.length : Int)) = true := decide_eq_true c4
        clear c4
        by_cases c5 : 0 ≤ x9_1
        · rw [if_pos c5] at H
          have c5b0 : decide (0 ≤ x9_1) = true := decide_eq_true c5
          clear c5
          by_cases c6 : x9_1 < (l0_2.length : Int)
          · rw [if_pos c6] at H
            have c6b0 : decide (x9_1 < (l0_2.length : Int)) = true := decide_eq_true c6
            clear c6
            replace H := Option.bind_eq_some_iff.mp H
            obtain ⟨t541, A70, H⟩ := H
            replace H : (impl_size.l0 k1 (wrap64 (x3_1 + t541)) l0_2 (l0_2.length : Int) (wrap64 (x9_1 + 1))) = some r := H
            have A7 := Aside0.mk A70
            clear A70
            have H' := Aside0.mk H
            clear H
            have p539 : 0 ≤ (x9_1 : Int) := of_decide_eq_true (by first | (with_reducible assumption) | assumption)
            have q539 : x9_1 < (l0_2.length : Int) := of_decide_eq_true (by first | (with_reducible assumption) | assumption)
            obtain ⟨ad539, A539_2, c539_2, e539, hx539_0, hx539_1, hx539_2, hl539_2, hi539_2⟩ := at_T29 HR0_2.out x9_1 p539 q539
            cases e539
            replace hx539_0 := (HB.out.cell (World.block_lt_of_cell? w _ hx539_0)).trans hx539_0
            replace hx539_1 := (HB.out.cell (World.block_lt_of_cell? w _ hx539_1)).trans hx539_1
            replace hx539_2 := (HB.out.cell (World.block_lt_of_cell? w _ hx539_2)).trans hx539_2
            have HR539_2 := Aside0.mk hi539_2
            have HC539_2 := Aside0.mk hl539_2
            clear hi539_2 hl539_2
            replace p539 := eq_true p539
            replace q539 := eq_true q539
            go_wp2_with (first | ((with_reducible refine gate_dst (N := 5) rfl ?_); refine box_event ?hg (N := 5) ?hd (cs := #[.int .i64 0, .string (⟨#[]⟩ : ByteArray), .slice none 0 0]) (t := 29) ?hr ?_; (case hd => rfl); (case hg => rfl); (case hr => first | (go_simp; done) | (go_simp; rfl)); intro gb540 hg w8 hbox hb; have n0_ := Aside0.mk (blk_below (g := gb538) (o := .cells #[.int .i64 a0_0, .string a0_1, .slice (some ad539) l0_2.length c0_2] 29 (0, 0)) (by (with_reducible repeat (first | refine blk_drewN ?_ _ | refine blk_drew ?_ | refine blk_alloc ?_ _)); exact BK538.out) hb); have n1_ := Aside0.mk (below_step (by repeat (first | (with_reducible first | exact HB.out | apply below_alloc | apply pw_below_drewN | apply below_drew1 | refine below_set ?_ GE538.out) | exact HB.out)) hb); have n2_ := Aside0.mk (hbox); have n3_ := Aside0.mk ((by rw [hg]; exact (below_size (by repeat (first | (with_reducible first | exact HB.out | apply below_alloc | apply pw_below_drewN | apply below_drew1 | refine below_set ?_ GE538.out) | exact HB.out))) : w.heap.size ≤ gb540)); have n4_ := Aside0.mk ((by rw [hg]; exact (below_size (by repeat (first | (with_reducible first | exact HB.out | apply below_alloc | apply pw_below_drewN | apply below_drew1 | refine below_set ?_ GE538.out) | exact HB.out))) : w.heap.size ≤ gb540)); have n5_ := Aside0.mk ((by rw [hg]; exact Nat.ne_of_lt (blk_lt (g := gb538) (o := .cells #[.int .i64 a0_0, .string a0_1, .slice (some ad539) l0_2.length c0_2] 29 (0, 0)) (by (with_reducible repeat (first | refine blk_drewN ?_ _ | refine blk_drew ?_ | refine blk_alloc ?_ _)); exact BK538.out)) : gb538 ≠ gb540)); have n6_ := Aside0.mk ((by rw [hg]; exact Nat.ne_of_gt (blk_lt (g := gb538) (o := .cells #[.int .i64 a0_0, .string a0_1, .slice (some ad539) l0_2.length c0_2] 29 (0, 0)) (by (with_reducible repeat (first | refine blk_drewN ?_ _ | refine blk_drew ?_ | refine blk_alloc ?_ _)); exact BK538.out)) : gb540 ≠ gb538)); clear BK538; clear HB; have BK538 := n0_; have HB := n1_; have BK540 := n2_; have GW540 := n3_; have GE540 := n4_; have NB538_540 := n5_; have NB540_538 := n6_; clear n0_ n1_ n2_ n3_ n4_ n5_ n6_; clear hb hbox hg; have hnb9 := NB540_538.out; have hnc9 := NB538_540.out; have hcz10_0 : w8.cell? ⟨gb540, 0, none⟩ = some (.int .i64 0) := (blk_cell BK540.out 0).trans rfl; have hcz10_1 : w8.cell? ⟨gb540, 1, none⟩ = some (.string (⟨#[]⟩ : ByteArray)) := (blk_cell BK540.out 1).trans rfl; have hcz10_2 : w8.cell? ⟨gb540, 2, none⟩ = some (.slice none 0 0) := (blk_cell BK540.out 2).trans rfl; have hfz10_0 := blk_frozen BK540.out 0; have hfz10_1 := blk_frozen BK540.out 1; have hfz10_2 := blk_frozen BK540.out 2) | ((with_reducible refine gate_callee (f := 79) rfl ?_); refine goesL_ (some 15) rfl rfl Try.func79 (by kernel_rfl) rfl #[.agg #[.int .i64 ((rd_T29 l0_2 x9_1).f0), .string ((rd_T29 l0_2 x9_1).f1), .slice A539_2 ((rd_T29 l0_2 x9_1).f2).length c539_2]] rfl (by (try simp only [List.map_toArray, List.map_cons, List.map_nil]); first | done | rfl | (simp only [List.length_drop, List.length_take]; rfl)) ?_; (with_reducible refine (ih k1 (by have := HK1.out; omega) ((rd_T29 l0_2 x9_1).f0) ((rd_T29 l0_2 x9_1).f1) _ _ ((rd_T29 l0_2 x9_1).f2) t541 _ ?side1 ?side2 A7.out).mono ?_); (case side1 => exact Kd.C_below HR539_2.out (by repeat (first | (with_reducible first | exact HB.out | apply below_alloc | apply pw_below_drewN | apply below_drew1 | refine below_set ?_ GE538.out | refine below_set ?_ GE540.out) | exact HB.out))); (case side2 => exact HC539_2.out); rintro e w11 ⟨rfl, hb⟩; refine ⟨_, rfl, ?_⟩; have n0_ := Aside0.mk (blk_below (g := gb538) (o := .cells #[.int .i64 a0_0, .string a0_1, .slice (some ad539) l0_2.length c0_2] 29 (0, 0)) (by (with_reducible repeat (first | refine blk_drewN ?_ _ | refine blk_drew ?_ | refine blk_alloc ?_ _)); refine blk_far ?_ NB538_540.out _; (with_reducible repeat (first | refine blk_drewN ?_ _ | refine blk_drew ?_ | refine blk_alloc ?_ _)); refine blk_far ?_ NB538_540.out _; (with_reducible repeat (first | refine blk_drewN ?_ _ | refine blk_drew ?_ | refine blk_alloc ?_ _)); refine blk_far ?_ NB538_540.out _; (with_reducible repeat (first | refine blk_drewN ?_ _ | refine blk_drew ?_ | refine blk_alloc ?_ _)); exact BK538.out) hb); have n1_ := Aside0.mk (blk_below (g := gb540) (o := .cells #[.int .i64 ((rd_T29 l0_2 x9_1).f0), .string ((rd_T29 l0_2 x9_1).f1), .slice A539_2 ((rd_T29 l0_2 x9_1).f2).length c539_2] 29 (0, 0)) (by (with_reducible repeat (first | refine blk_drewN ?_ _ | refine blk_drew ?_ | refine blk_alloc ?_ _)); refine blk_put (cs := #[.int .i64 ((rd_T29 l0_2 x9_1).f0), .string ((rd_T29 l0_2 x9_1).f1), .slice none 0 0]) ?_ 2 _ rfl; (with_reducible repeat (first | refine blk_drewN ?_ _ | refine blk_drew ?_ | refine blk_alloc ?_ _)); refine blk_put (cs := #[.int .i64 ((rd_T29 l0_2 x9_1).f0), .string (⟨#[]⟩ : ByteArray), .slice none 0 0]) ?_ 1 _ rfl; (with_reducible repeat (first | refine blk_drewN ?_ _ | refine blk_drew ?_ | refine blk_alloc ?_ _)); refine blk_put (cs := #[.int .i64 0, .string (⟨#[]⟩ : ByteArray), .slice none 0 0]) ?_ 0 _ rfl; (with_reducible repeat (first | refine blk_drewN ?_ _ | refine blk_drew ?_ | refine blk_alloc ?_ _)); exact BK540.out) hb); have n2_ := Aside0.mk (below_step (by repeat (first | (with_reducible first | exact HB.out | apply below_alloc | apply pw_below_drewN | apply below_drew1 | refine below_set ?_ GE538.out | refine below_set ?_ GE540.out) | exact HB.out)) hb); clear BK538; clear BK540; clear HB; have BK538 := n0_; have BK540 := n1_; have HB := n2_; clear n0_ n1_ n2_; (try clear hb); (try clear hb2); (try clear hk); (try clear hi)))
            go_roundg k1
            case measure => have := HK1.out; omega
            case rel => exact ⟨(wrap64 (x3_1 + t541)), (wrap64 (x9_1 + 1)), (by first | rfl | (simp; done) | (simp [*]; done)), (by first | rfl | (simp; done) | (simp [*]; done)), H', ⟨by have := HK1.out; omega⟩, ⟨by (with_reducible repeat (first | refine blk_drewN ?_ _ | refine blk_drew ?_ | refine blk_alloc ?_ _)); exact BK538.out⟩, ⟨by repeat (first | (with_reducible first | exact HB.out | apply below_alloc | apply pw_below_drewN | apply below_drew1 | refine below_set ?_ GE538.out | refine below_set ?_ GE540.out) | exact HB.out)⟩⟩
          · rw [if_neg c6] at H
            exact absurd H (by simp)
        · rw [if_neg c5] at H
          exact absurd H (by simp)
      · rw [if_neg c4] at H
        have c4b0 : decide (x9_1 < (l0_2.length : Int)) = false := decide_eq_false c4
        clear c4
        obtain rfl := Option.some.inj H
        simp only [Option.some.injEq, Prod.mk.injEq] at H
        obtain ⟨rfl⟩ := H
        go_wp2
        go_ret
        exact ⟨by first | rfl | (simp [errW_none, errW_some] <;> rfl) | (simp [*, errW_none, errW_some] <;> rfl), by repeat (first | (with_reducible first | exact HB.out | apply below_alloc | apply pw_below_drewN | apply below_drew1 | refine below_set ?_ GE538.out) | exact HB.out)⟩
end Go.Proofs.Ytldgkgdgcfllmaa.P
end
section
namespace Go.Proofs.Ytldgkgdgcfllmaa.P
open Go.RowKit Go.Proofs.YtldgkgdgcfllmaaW.PrintWords Go.Proofs.YtldgkgdgcfllmaaW.PrintLast Go.Proofs.YtldgkgdgcfllmaaW.PrintMore
attribute [local go_sem] max2_int min2_int max_two min_two max_three min_three max_four min_four
set_option linter.unusedVariables false
set_option linter.unusedSimpArgs false
mutual
def impl_nodesOf.j0 : Nat → Int → Bool → Int → ByteArray → List (S29) → Option (Int)
  | 0, _, _, _, _, _ => none
  | k + 1, x1, x18, x220000, x220001, x220002 => if x18 = true then (some 17) else (if x220000 = 3 then (if (x220001.size : Int) = 1 then ((impl_IsWord.f k x220001).bind fun t221 => (if t221 = true then (impl_nodesOf.j1 k x1 x220000 x220001 x220002) else (some 17))) else (some 17)) else (if x220001.toList = ([] : List UInt8) then (impl_nodesOf.j1 k x1 x220000 x220001 x220002) else (some 17)))
def impl_nodesOf.j1 : Nat → Int → Int → ByteArray → List (S29) → Option (Int)
  | 0, _, _, _, _ => none
  | k + 1, x1, x220000, x220001, x220002 => impl_nodesOf.l0 k x1 1 x220002 (x220002.length : Int) 0
def impl_nodesOf.l0 : Nat → Int → Int → List (S29) → Int → Int → Option (Int)
  | 0, _, _, _, _, _ => none
  | k + 1, x1, x5, x36, x37, x38 => if x38 < x37 then (if 0 ≤ x38 then (if x38 < (x36.length : Int) then ((impl_nodesOf.f k ((rd_T29 x36 x38).f0) ((rd_T29 x36 x38).f1) ((rd_T29 x36 x38).f2) (wrap64 (x1 - 1))).bind fun t224 => (impl_nodesOf.l0 k x1 (wrap64 (x5 + t224)) x36 x37 (wrap64 (x38 + 1)))) else (none)) else (none)) else (some (mn x5 17))
def impl_nodesOf.f : Nat → Int → ByteArray → List (S29) → Int → Option (Int)
  | 0, _, _, _, _ => none
  | k + 1, a0_0, a0_1, l0_2, a1 => if a1 = 0 then (impl_nodesOf.j0 k a1 true a0_0 a0_1 l0_2) else ((impl_argsOf.f k a0_0).bind fun t220 => (impl_nodesOf.j0 k a1 ((l0_2.length : Int) != t220) a0_0 a0_1 l0_2))
end
theorem impl_nodesOf.mono_l : ∀ k, (∀ y0 y1 y2 y3, LeO (impl_nodesOf.f k y0 y1 y2 y3) (impl_nodesOf.f (k + 1) y0 y1 y2 y3)) ∧ (∀ y0 y1 y2 y3 y4, LeO (impl_nodesOf.j0 k y0 y1 y2 y3 y4) (impl_nodesOf.j0 (k + 1) y0 y1 y2 y3 y4)) ∧ (∀ y0 y1 y2 y3, LeO (impl_nodesOf.j1 k y0 y1 y2 y3) (impl_nodesOf.j1 (k + 1) y0 y1 y2 y3)) ∧ (∀ y0 y1 y2 y3 y4, LeO (impl_nodesOf.l0 k y0 y1 y2 y3 y4) (impl_nodesOf.l0 (k + 1) y0 y1 y2 y3 y4))
 | 0 => ⟨fun _ _ _ _ r h => by simp [impl_nodesOf.f] at h, fun _ _ _ _ _ r h => by simp [impl_nodesOf.j0] at h, fun _ _ _ _ r h => by simp [impl_nodesOf.j1] at h, fun _ _ _ _ _ r h => by simp [impl_nodesOf.l0] at h⟩
 | k + 1 => by
  obtain ⟨ih0, ih1, ih2, ih3⟩ := impl_nodesOf.mono_l k
  refine ⟨?_, ?_, ?_, ?_⟩
  ·intro y0 y1 y2 y3
   unfold impl_nodesOf.f
   repeat' first
   | (with_reducible exact ih0 _ _ _ _)
   | (with_reducible exact ih1 _ _ _ _ _)
   | (with_reducible exact ih2 _ _ _ _)
   | (with_reducible exact ih3 _ _ _ _ _)
   | (with_reducible exact impl_IsWord.mono _ _)
   | (with_reducible exact impl_argsOf.mono _ _)
   | (with_reducible exact LeO.refl _)
   | (with_reducible exact LeO.none _)
   | (with_reducible refine LeO.ite ?_ ?_)
   | (with_reducible refine LeO.bind ?_ (fun _ => ?_))
   | exact ih0 _ _ _ _
   | exact ih1 _ _ _ _ _
   | exact ih2 _ _ _ _
   | exact ih3 _ _ _ _ _
   | exact impl_IsWord.mono _ _
   | exact impl_argsOf.mono _ _
   | exact LeO.none _
   | refine LeO.ite ?_ ?_
   | refine LeO.bind ?_ (fun _ => ?_)
  ·intro y0 y1 y2 y3 y4
   unfold impl_nodesOf.j0
   repeat' first
   | (with_reducible exact ih0 _ _ _ _)
   | (with_reducible exact ih1 _ _ _ _ _)
   | (with_reducible exact ih2 _ _ _ _)
   | (with_reducible exact ih3 _ _ _ _ _)
   | (with_reducible exact impl_IsWord.mono _ _)
   | (with_reducible exact impl_argsOf.mono _ _)
   | (with_reducible exact LeO.refl _)
   | (with_reducible exact LeO.none _)
   | (with_reducible refine LeO.ite ?_ ?_)
   | (with_reducible refine LeO.bind ?_ (fun _ => ?_))
   | exact ih0 _ _ _ _
   | exact ih1 _ _ _ _ _
   | exact ih2 _ _ _ _
   | exact ih3 _ _ _ _ _
   | exact impl_IsWord.mono _ _
   | exact impl_argsOf.mono _ _
   | exact LeO.none _
   | refine LeO.ite ?_ ?_
   | refine LeO.bind ?_ (fun _ => ?_)
  ·intro y0 y1 y2 y3
   unfold impl_nodesOf.j1
   repeat' first
   | (with_reducible exact ih0 _ _ _ _)
   | (with_reducible exact ih1 _ _ _ _ _)
   | (with_reducible exact ih2 _ _ _ _)
   | (with_reducible exact ih3 _ _ _ _ _)
   | (with_reducible exact impl_IsWord.mono _ _)
   | (with_reducible exact impl_argsOf.mono _ _)
   | (with_reducible exact LeO.refl _)
   | (with_reducible exact LeO.none _)
   | (with_reducible refine LeO.ite ?_ ?_)
   | (with_reducible refine LeO.bind ?_ (fun _ => ?_))
   | exact ih0 _ _ _ _
   | exact ih1 _ _ _ _ _
   | exact ih2 _ _ _ _
   | exact ih3 _ _ _ _ _
   | exact impl_IsWord.mono _ _
   | exact impl_argsOf.mono _ _
   | exact LeO.none _
   | refine LeO.ite ?_ ?_
   | refine LeO.bind ?_ (fun _ => ?_)
  ·intro y0 y1 y2 y3 y4
   unfold impl_nodesOf.l0
   repeat' first
   | (with_reducible exact ih0 _ _ _ _)
   | (with_reducible exact ih1 _ _ _ _ _)
   | (with_reducible exact ih2 _ _ _ _)
   | (with_reducible exact ih3 _ _ _ _ _)
   | (with_reducible exact impl_IsWord.mono _ _)
   | (with_reducible exact impl_argsOf.mono _ _)
   | (with_reducible exact LeO.refl _)
   | (with_reducible exact LeO.none _)
   | (with_reducible refine LeO.ite ?_ ?_)
   | (with_reducible refine LeO.bind ?_ (fun _ => ?_))
   | exact ih0 _ _ _ _
   | exact ih1 _ _ _ _ _
   | exact ih2 _ _ _ _
   | exact ih3 _ _ _ _ _
   | exact impl_IsWord.mono _ _
   | exact impl_argsOf.mono _ _
   | exact LeO.none _
   | refine LeO.ite ?_ ?_
   | refine LeO.bind ?_ (fun _ => ?_)
theorem impl_nodesOf.mono : ∀ a0 a1 a2 a3 k, LeO (impl_nodesOf.f k a0 a1 a2 a3) (impl_nodesOf.f (k + 1) a0 a1 a2 a3) := by
 intro a0 a1 a2 a3 k
 obtain ⟨ih0, ih1, ih2, ih3⟩ := impl_nodesOf.mono_l k
 exact ih0 a0 a1 a2 a3
set_option maxHeartbeats 8000000 in
set_option maxRecDepth 100000 in
theorem impl_nodesOf.calls (k : Nat) : ∀ (a0_0 : Int) (a0_1 : ByteArray) (A0_2 : Option Addr) (c0_2 : Nat) (l0_2 : List (S29)) (a1 : Int) (r : Int) (w : World) (hr0_2 : Kd.C k29 w A0_2 l0_2.length l0_2) (hc0_2 : l0_2.length ≤ c0_2) (h : impl_nodesOf.f k a0_0 a0_1 l0_2 a1 = some r),
  Calls Try.prog 44 #[.agg #[.int .i64 a0_0, .string a0_1, .slice A0_2 l0_2.length c0_2], .int .i64 a1] w fun e w' => e = .returned (.int .i64 r) ∧ Below w.heap.size w w' := by
 induction k using Nat.strongRecOn with
 | _ k ih =>
 intro a0_0 a0_1 A0_2 c0_2 l0_2 a1 r w hr0_2 hc0_2 h
 cases k with
 | zero => exact absurd h (by simp [impl_nodesOf.f])
 | succ k =>
 simp only [impl_nodesOf.f] at h
 have hu29 := Try.underlying29
 have HR0_2 := Aside0.mk hr0_2
 have HC0_2 := Aside0.mk hc0_2
 clear hr0_2 hc0_2
 have HB := Aside0.mk (Below.refl w.heap.size w)
 have H : (if a1 = 0 then (impl_nodesOf.j0 k a1 true a0_0 a0_1 l0_2) else ((impl_argsOf.f k a0_0).bind fun t220 => (impl_nodesOf.j0 k a1 ((l0_2.length : Int) != t220) a0_0 a0_1 l0_2))) = some r := h
 clear h
 have HC3 := Aside0.mk H
 clear H
 go_enter Try.func44, Try.ntmps44
 go_upto_region 1 with (first | ((with_reducible refine gate_dst (N := 2) rfl ?_); (try (refine gate_guard (by rfl) ?_; dsimp only)); refine box_event ?hg (N := 2) ?hd (cs := #[.int .i64 a0_0, .string a0_1, .slice A0_2 l0_2.length c0_2]) (t := 29) ?hr ?_; (case hd => rfl); (case hg => rfl); (case hr => first | (go_simp; done) | (go_simp; rfl)); intro gb219 hg w4 hbox hb; have n0_ := Aside0.mk (below_step (by repeat (first | (with_reducible first | exact HB.out | apply below_alloc | apply pw_below_drewN | apply below_drew1) | exact HB.out)) hb); have n1_ := Aside0.mk (hbox); have n2_ := Aside0.mk ((by rw [hg]; exact (below_size (by repeat (first | (with_reducible first | exact HB.out | apply below_alloc | apply pw_below_drewN | apply below_drew1) | exact HB.out))) : w.heap.size ≤ gb219)); have n3_ := Aside0.mk ((by rw [hg]; exact (below_size (by repeat (first | (with_reducible first | exact HB.out | apply below_alloc | apply pw_below_drewN | apply below_drew1) | exact HB.out))) : w.heap.size ≤ gb219)); clear HB; have HB := n0_; have BK219 := n1_; have GW219 := n2_; have GE219 := n3_; clear n0_ n1_ n2_ n3_; clear hb hbox hg))
 repeat (go_quiet (first | ((with_reducible refine gate_dst (N := 2) rfl ?_); (try (refine gate_guard (by rfl) ?_; dsimp only)); refine box_event ?hg (N := 2) ?hd (cs := #[.int .i64 a0_0, .string a0_1, .slice A0_2 l0_2.length c0_2]) (t := 29) ?hr ?_; (case hd => rfl); (case hg => rfl); (case hr => first | (go_simp; done) | (go_simp; rfl)); intro gb219 hg w4 hbox hb; have n0_ := Aside0.mk (below_step (by repeat (first | (with_reducible first | exact HB.out | apply below_alloc | apply pw_below_drewN | apply below_drew1) | exact HB.out)) hb); have n1_ := Aside0.mk (hbox); have n2_ := Aside0.mk ((by rw [hg]; exact (below_size (by repeat (first | (with_reducible first | exact HB.out | apply below_alloc | apply pw_below_drewN | apply below_drew1) | exact HB.out))) : w.heap.size ≤ gb219)); have n3_ := Aside0.mk ((by rw [hg]; exact (below_size (by repeat (first | (with_reducible first | exact HB.out | apply below_alloc | apply pw_below_drewN | apply below_drew1) | exact HB.out))) : w.heap.size ≤ gb219)); clear HB; have HB := n0_; have BK219 := n1_; have GW219 := n2_; have GE219 := n3_; clear n0_ n1_ n2_ n3_; clear hb hbox hg)); go_upto_region 1 with (first | ((with_reducible refine gate_dst (N := 2) rfl ?_); (try (refine gate_guard (by rfl) ?_; dsimp only)); refine box_event ?hg (N := 2) ?hd (cs := #[.int .i64 a0_0, .string a0_1, .slice A0_2 l0_2.length c0_2]) (t := 29) ?hr ?_; (case hd => rfl); (case hg => rfl); (case hr => first | (go_simp; done) | (go_simp; rfl)); intro gb219 hg w4 hbox hb; have n0_ := Aside0.mk (below_step (by repeat (first | (with_reducible first | exact HB.out | apply below_alloc | apply pw_below_drewN | apply below_drew1) | exact HB.out)) hb); have n1_ := Aside0.mk (hbox); have n2_ := Aside0.mk ((by rw [hg]; exact (below_size (by repeat (first | (with_reducible first | exact HB.out | apply below_alloc | apply pw_below_drewN | apply below_drew1) | exact HB.out))) : w.heap.size ≤ gb219)); have n3_ := Aside0.mk ((by rw [hg]; exact (below_size (by repeat (first | (with_reducible first | exact HB.out | apply below_alloc | apply pw_below_drewN | apply below_drew1) | exact HB.out))) : w.heap.size ≤ gb219)); clear HB; have HB := n0_; have BK219 := n1_; have GW219 := n2_; have GE219 := n3_; clear n0_ n1_ n2_ n3_; clear hb hbox hg)))
 (try simp only [Act.put, List.setIfInBounds_toArray, List.set_cons_zero, List.set_cons_succ])
 go_cut [18] (fun v18 wc => ∃ (kq : Nat) (x18_2 : Bool), v18 = .bool x18_2 ∧ Aside0 (impl_nodesOf.j0 kq a1 x18_2 a0_0 a0_1 l0_2 = some r) ∧ Aside0 (kq ≤ k) ∧ Aside0 (wc.heap[gb219]? = some (.cells #[.int .i64 a0_0, .string a0_1, (.slice A0_2 l0_2.length c0_2)] 29 (0, 0))) ∧ Aside0 (Below w.heap.size w wc))
 case first =>
  have H := HC3.out
  clear HC3
  by_cases c5 : a1 = 0
  ·rw [if_pos c5] at H
   have c5b0 : (a1 == 0) = true := beq_iff_eq.mpr c5
   have c5b1 : (a1 != 0) = false := bne_eq_false_iff_eq.mpr c5
   clear c5
   (first | rw [c5b0] | (simp only [i64_w, i32_w]; rw [c5b0]) | skip)
   have H' := Aside0.mk H
   clear H
   go_wp2
   repeat (go_quiet (fail); try go_wp2)
   go_meet
   case rel => exact ⟨_, (true), (by first | rfl | (simp; done) | (simp [*]; done)), H', ⟨by first | omega | exact Nat.le_refl _⟩, ⟨by (with_reducible repeat (first | refine blk_drewN ?_ _ | refine blk_drew ?_ | refine blk_alloc ?_ _)); exact BK219.out⟩, ⟨by repeat (first | (with_reducible first | exact HB.out | apply below_alloc | apply pw_below_drewN | apply below_drew1 | refine below_set ?_ GE219.out) | exact HB.out)⟩⟩
  ·rw [if_neg c5] at H
   have c5b0 : (a1 == 0) = false := beq_eq_false_iff_ne.mpr c5
   have c5b1 : (a1 != 0) = true := bne_iff_ne.mpr c5
   (first | rw [c5b0] | (simp only [i64_w, i32_w]; rw [c5b0]) | skip)
   replace H := Option.bind_eq_some_iff.mp H
   obtain ⟨t220, A60, H⟩ := H
   replace H : (impl_nodesOf.j0 k a1 ((l0_2.length : Int) != t220) a0_0 a0_1 l0_2) = some r := H
   have A6 := Aside0.mk A60
   clear A60
   have H' := Aside0.mk H
   clear H
   have hcz7_0 : w4.cell? ⟨gb219, 0, none⟩ = some (.int .i64 a0_0) := (blk_cell BK219.out 0).trans rfl
   have hcz7_1 : w4.cell? ⟨gb219, 1, none⟩ = some (.string a0_1) := (blk_cell BK219.out 1).trans rfl
   have hcz7_2 : w4.cell? ⟨gb219, 2, none⟩ = some (.slice A0_2 l0_2.length c0_2) := (blk_cell BK219.out 2).trans rfl
   have hfz7_0 := blk_frozen BK219.out 0
   have hfz7_1 := blk_frozen BK219.out 1
   have hfz7_2 := blk_frozen BK219.out 2
   go_wp2_with (first | (go_at_call 70; (with_reducible refine (impl_argsOf.calls k a0_0 t220 _ A6.out).mono ?_); rintro e w' ⟨rfl, ⟨nd, rfl⟩⟩; (try first | exact ⟨rfl, _, World.drewN_drewN _ _ _⟩ | exact ⟨rfl, _, Eq.trans (World.drewN_drewN _ _ _) (congrArg (World.drewN _) (Nat.add_assoc _ _ _))⟩)))
   repeat (go_quiet (first | (go_at_call 70; (with_reducible refine (impl_argsOf.calls k a0_0 t220 _ A6.out).mono ?_); rintro e w' ⟨rfl, ⟨nd, rfl⟩⟩; (try first | exact ⟨rfl, _, World.drewN_drewN _ _ _⟩ | exact ⟨rfl, _, Eq.trans (World.drewN_drewN _ _ _) (congrArg (World.drewN _) (Nat.add_assoc _ _ _))⟩))); try go_wp2_with (first | (go_at_call 70; (with_reducible refine (impl_argsOf.calls k a0_0 t220 _ A6.out).mono ?_); rintro e w' ⟨rfl, ⟨nd, rfl⟩⟩; (try first | exact ⟨rfl, _, World.drewN_drewN _ _ _⟩ | exact ⟨rfl, _, Eq.trans (World.drewN_drewN _ _ _) (congrArg (World.drewN _) (Nat.add_assoc _ _ _))⟩))))
   go_meet
   case rel => exact ⟨_, (((l0_2.length : Int) != t220)), (by first | rfl | (simp; done) | (simp [*]; done)), H', ⟨by first | omega | exact Nat.le_refl _⟩, ⟨by (with_reducible repeat (first | refine blk_drewN ?_ _ | refine blk_drew ?_ | refine blk_alloc ?_ _)); exact BK219.out⟩, ⟨by repeat (first | (with_reducible first | exact HB.out | apply below_alloc | apply pw_below_drewN | apply below_drew1 | refine below_set ?_ GE219.out) | exact HB.out)⟩⟩
 case rest =>
  clear HC3
  try clear p2
  try clear c4
  try clear c5
  try clear c5b0
  try clear c5b1
  try clear hcz7_0
  try clear hcz7_1
  try clear hcz7_2
  try clear hfz7_0
  try clear hfz7_1
  try clear hfz7_2
  obtain ⟨kq, x18_2, rfl, HA, HJ2, BK219, HB⟩ := hcut
  cases kq with
  | zero => exact absurd HA.out (by simp [impl_nodesOf.j0])
  | succ kj2 =>
   have H := HA.out
   clear HA
   simp only [impl_nodesOf.j0] at H
   by_cases c8 : x18_2 = true
   ·subst c8
    have H1 : (some 17) = some r := by rw [if_pos rfl] at H; exact H
    clear H
    have H := H1
    clear H1
    obtain rfl := Option.some.inj H
    simp only [Option.some.injEq, Prod.mk.injEq] at H
    obtain ⟨rfl⟩ := H
    go_wp2
    repeat (go_quiet (fail); try go_wp2)
    go_ret
    exact ⟨by first | rfl | (simp [errW_none, errW_some] <;> rfl) | (simp [*, errW_none, errW_some] <;> rfl), by repeat (first | (with_reducible first | exact HB.out | apply below_alloc | apply pw_below_drewN | apply below_drew1 | refine below_set ?_ GE219.out) | exact HB.out)⟩
   ·replace c8 := Bool.eq_false_iff.mpr c8
    subst c8
    have H1 : (if a0_0 = 3 then (if (a0_1.size : Int) = 1 then ((impl_IsWord.f kj2 a0_1).bind fun t221 => (if t221 = true then (impl_nodesOf.j1 kj2 a1 a0_0 a0_1 l0_2) else (some 17))) else (some 17)) else (if a0_1.toList = ([] : List UInt8) then (impl_nodesOf.j1 kj2 a1 a0_0 a0_1 l0_2) else (some 17))) = some r := by rw [if_neg (show ¬ (false = true) by decide)] at H; exact H
    clear H
    have H := H1
    clear H1
    have HC9 := Aside0.mk H
    clear H
    have hcz10_0 : wc.cell? ⟨gb219, 0, none⟩ = some (.int .i64 a0_0) := (blk_cell BK219.out 0).trans rfl
    have hcz10_1 : wc.cell? ⟨gb219, 1, none⟩ = some (.string a0_1) := (blk_cell BK219.out 1).trans rfl
    have hcz10_2 : wc.cell? ⟨gb219, 2, none⟩ = some (.slice A0_2 l0_2.length c0_2) := (blk_cell BK219.out 2).trans rfl
    have hfz10_0 := blk_frozen BK219.out 0
    have hfz10_1 := blk_frozen BK219.out 1
    have hfz10_2 := blk_frozen BK219.out 2
    go_upto_if 21 with (fail)
    repeat (go_quiet (fail); go_upto_if 21 with (fail))
    go_cut [] (fun wc => ∃ (kq : Nat), Aside0 (impl_nodesOf.j1 kq a1 a0_0 a0_1 l0_2 = some r) ∧ Aside0 (kq ≤ kj2) ∧ Aside0 (wc.heap[gb219]? = some (.cells #[.int .i64 a0_0, .string a0_1, (.slice A0_2 l0_2.length c0_2)] 29 (0, 0))) ∧ Aside0 (Below w.heap.size w wc))
    case first =>
     have H := HC9.out
     clear HC9
     by_cases c11 : a0_0 = 3
     ·rw [if_pos c11] at H
      have c11b0 : (a0_0 == 3) = true := beq_iff_eq.mpr c11
      have c11b1 : (a0_0 != 3) = false := bne_eq_false_iff_eq.mpr c11
      clear c11
      (first | rw [c11b0] | (simp only [i64_w, i32_w]; rw [c11b0]) | skip)
      by_cases c12 : (a0_1.size : Int) = 1
      ·rw [if_pos c12] at H
       have c12b0 : ((a0_1.size : Int) == 1) = true := beq_iff_eq.mpr c12
       have c12b1 : ((a0_1.size : Int) != 1) = false := bne_eq_false_iff_eq.mpr c12
       clear c12
       replace H := Option.bind_eq_some_iff.mp H
       obtain ⟨t221, A130, H⟩ := H
       replace H : (if t221 = true then (impl_nodesOf.j1 kj2 a1 a0_0 a0_1 l0_2) else (some 17)) = some r := H
       have A13 := Aside0.mk A130
       clear A130
       by_cases c14 : t221 = true
       ·subst c14
        have H1 : (impl_nodesOf.j1 kj2 a1 a0_0 a0_1 l0_2) = some r := by rw [if_pos rfl] at H; exact H
        clear H
        have H := H1
        clear H1
        have H' := Aside0.mk H
        clear H
        have hcz15_0 : wc.cell? ⟨gb219, 0, none⟩ = some (.int .i64 a0_0) := (blk_cell BK219.out 0).trans rfl
        have hcz15_1 : wc.cell? ⟨gb219, 1, none⟩ = some (.string a0_1) := (blk_cell BK219.out 1).trans rfl
        have hcz15_2 : wc.cell? ⟨gb219, 2, none⟩ = some (.slice A0_2 l0_2.length c0_2) := (blk_cell BK219.out 2).trans rfl
        have hfz15_0 := blk_frozen BK219.out 0
        have hfz15_1 := blk_frozen BK219.out 1
        have hfz15_2 := blk_frozen BK219.out 2
        go_wp2_with (first | (go_at_call 53; (with_reducible refine (impl_IsWord.calls kj2 a0_1 true _ A13.out).mono ?_); rintro e w' ⟨rfl, ⟨nd, rfl⟩⟩; (try first | exact ⟨rfl, _, World.drewN_drewN _ _ _⟩ | exact ⟨rfl, _, Eq.trans (World.drewN_drewN _ _ _) (congrArg (World.drewN _) (Nat.add_assoc _ _ _))⟩)))
        repeat (go_quiet (first | (go_at_call 53; (with_reducible refine (impl_IsWord.calls kj2 a0_1 true _ A13.out).mono ?_); rintro e w' ⟨rfl, ⟨nd, rfl⟩⟩; (try first | exact ⟨rfl, _, World.drewN_drewN _ _ _⟩ | exact ⟨rfl, _, Eq.trans (World.drewN_drewN _ _ _) (congrArg (World.drewN _) (Nat.add_assoc _ _ _))⟩))); try go_wp2_with (first | (go_at_call 53; (with_reducible refine (impl_IsWord.calls kj2 a0_1 true _ A13.out).mono ?_); rintro e w' ⟨rfl, ⟨nd, rfl⟩⟩; (try first | exact ⟨rfl, _, World.drewN_drewN _ _ _⟩ | exact ⟨rfl, _, Eq.trans (World.drewN_drewN _ _ _) (congrArg (World.drewN _) (Nat.add_assoc _ _ _))⟩))))
        go_meet
        case rel => exact ⟨_, H', ⟨by have := HJ2.out; first | omega | exact Nat.le_refl _⟩, ⟨by (with_reducible repeat (first | refine blk_drewN ?_ _ | refine blk_drew ?_ | refine blk_alloc ?_ _)); exact BK219.out⟩, ⟨by repeat (first | (with_reducible first | exact HB.out | apply below_alloc | apply pw_below_drewN | apply below_drew1 | refine below_set ?_ GE219.out) | exact HB.out)⟩⟩
       ·replace c14 := Bool.eq_false_iff.mpr c14
        subst c14
        have H1 : (some 17) = some r := by rw [if_neg (show ¬ (false = true) by decide)] at H; exact H
        clear H
        have H := H1
        clear H1
        obtain rfl := Option.some.inj H
        simp only [Option.some.injEq, Prod.mk.injEq] at H
        obtain ⟨rfl⟩ := H
        have hcz16_0 : wc.cell? ⟨gb219, 0, none⟩ = some (.int .i64 a0_0) := (blk_cell BK219.out 0).trans rfl
        have hcz16_1 : wc.cell? ⟨gb219, 1, none⟩ = some (.string a0_1) := (blk_cell BK219.out 1).trans rfl
        have hcz16_2 : wc.cell? ⟨gb219, 2, none⟩ = some (.slice A0_2 l0_2.length c0_2) := (blk_cell BK219.out 2).trans rfl
        have hfz16_0 := blk_frozen BK219.out 0
        have hfz16_1 := blk_frozen BK219.out 1
        have hfz16_2 := blk_frozen BK219.out 2
        go_wp2_with (first | (go_at_call 53; (with_reducible refine (impl_IsWord.calls kj2 a0_1 false _ A13.out).mono ?_); rintro e w' ⟨rfl, ⟨nd, rfl⟩⟩; (try first | exact ⟨rfl, _, World.drewN_drewN _ _ _⟩ | exact ⟨rfl, _, Eq.trans (World.drewN_drewN _ _ _) (congrArg (World.drewN _) (Nat.add_assoc _ _ _))⟩)))
        repeat (go_quiet (first | (go_at_call 53; (with_reducible refine (impl_IsWord.calls kj2 a0_1 false _ A13.out).mono ?_); rintro e w' ⟨rfl, ⟨nd, rfl⟩⟩; (try first | exact ⟨rfl, _, World.drewN_drewN _ _ _⟩ | exact ⟨rfl, _, Eq.trans (World.drewN_drewN _ _ _) (congrArg (World.drewN _) (Nat.add_assoc _ _ _))⟩))); try go_wp2_with (first | (go_at_call 53; (with_reducible refine (impl_IsWord.calls kj2 a0_1 false _ A13.out).mono ?_); rintro e w' ⟨rfl, ⟨nd, rfl⟩⟩; (try first | exact ⟨rfl, _, World.drewN_drewN _ _ _⟩ | exact ⟨rfl, _, Eq.trans (World.drewN_drewN _ _ _) (congrArg (World.drewN _) (Nat.add_assoc _ _ _))⟩))))
        go_ret
        exact ⟨by first | rfl | (simp [errW_none, errW_some] <;> rfl) | (simp [*, errW_none, errW_some] <;> rfl), by repeat (first | (with_reducible first | exact HB.out | apply below_alloc | apply pw_below_drewN | apply below_drew1 | refine below_set ?_ GE219.out) | exact HB.out)⟩
      ·rw [if_neg c12] at H
       have c12b0 : ((a0_1.size : Int) == 1) = false := beq_eq_false_iff_ne.mpr c12
       have c12b1 : ((a0_1.size : Int) != 1) = true := bne_iff_ne.mpr c12
       obtain rfl := Option.some.inj H
       simp only [Option.some.injEq, Prod.mk.injEq] at H
       obtain ⟨rfl⟩ := H
       have hcz17_0 : wc.cell? ⟨gb219, 0, none⟩ = some (.int .i64 a0_0) := (blk_cell BK219.out 0).trans rfl
       have hcz17_1 : wc.cell? ⟨gb219, 1, none⟩ = some (.string a0_1) := (blk_cell BK219.out 1).trans rfl
       have hcz17_2 : wc.cell? ⟨gb219, 2, none⟩ = some (.slice A0_2 l0_2.length c0_2) := (blk_cell BK219.out 2).trans rfl
       have hfz17_0 := blk_frozen BK219.out 0
       have hfz17_1 := blk_frozen BK219.out 1
       have hfz17_2 := blk_frozen BK219.out 2
       go_wp2
       repeat (go_quiet (fail); try go_wp2)
       go_ret
       exact ⟨by first | rfl | (simp [errW_none, errW_some] <;> rfl) | (simp [*, errW_none, errW_some] <;> rfl), by repeat (first | (with_reducible first | exact HB.out | apply below_alloc | apply pw_below_drewN | apply below_drew1 | refine below_set ?_ GE219.out) | exact HB.out)⟩
     ·rw [if_neg c11] at H
      have c11b0 : (a0_0 == 3) = false := beq_eq_false_iff_ne.mpr c11
      have c11b1 : (a0_0 != 3) = true := bne_iff_ne.mpr c11
      (first | rw [c11b0] | (simp only [i64_w, i32_w]; rw [c11b0]) | skip)
      by_cases c18 : a0_1.toList = ([] : List UInt8)
      ·rw [if_pos c18] at H
       have c18b0 : (a0_1.toList == ([] : List UInt8)) = true := beq_iff_eq.mpr c18
       have c18b1 : (a0_1.toList != ([] : List UInt8)) = false := bne_eq_false_iff_eq.mpr c18
       clear c18
       have H' := Aside0.mk H
       clear H
       have hcz19_0 : wc.cell? ⟨gb219, 0, none⟩ = some (.int .i64 a0_0) := (blk_cell BK219.out 0).trans rfl
       have hcz19_1 : wc.cell? ⟨gb219, 1, none⟩ = some (.string a0_1) := (blk_cell BK219.out 1).trans rfl
       have hcz19_2 : wc.cell? ⟨gb219, 2, none⟩ = some (.slice A0_2 l0_2.length c0_2) := (blk_cell BK219.out 2).trans rfl
       have hfz19_0 := blk_frozen BK219.out 0
       have hfz19_1 := blk_frozen BK219.out 1
       have hfz19_2 := blk_frozen BK219.out 2
       go_wp2
       repeat (go_quiet (fail); try go_wp2)
       go_meet
       case rel => exact ⟨_, H', ⟨by have := HJ2.out; first | omega | exact Nat.le_refl _⟩, ⟨by (with_reducible repeat (first | refine blk_drewN ?_ _ | refine blk_drew ?_ | refine blk_alloc ?_ _)); exact BK219.out⟩, ⟨by repeat (first | (with_reducible first | exact HB.out | apply below_alloc | apply pw_below_drewN | apply below_drew1 | refine below_set ?_ GE219.out) | exact HB.out)⟩⟩
      ·rw [if_neg c18] at H
       have c18b0 : (a0_1.toList == ([] : List UInt8)) = false := beq_eq_false_iff_ne.mpr c18
       have c18b1 : (a0_1.toList != ([] : List UInt8)) = true := bne_iff_ne.mpr c18
       obtain rfl := Option.some.inj H
       simp only [Option.some.injEq, Prod.mk.injEq] at H
       obtain ⟨rfl⟩ := H
       have hcz20_0 : wc.cell? ⟨gb219, 0, none⟩ = some (.int .i64 a0_0) := (blk_cell BK219.out 0).trans rfl
       have hcz20_1 : wc.cell? ⟨gb219, 1, none⟩ = some (.string a0_1) := (blk_cell BK219.out 1).trans rfl
       have hcz20_2 : wc.cell? ⟨gb219, 2, none⟩ = some (.slice A0_2 l0_2.length c0_2) := (blk_cell BK219.out 2).trans rfl
       have hfz20_0 := blk_frozen BK219.out 0
       have hfz20_1 := blk_frozen BK219.out 1
       have hfz20_2 := blk_frozen BK219.out 2
       go_wp2
       repeat (go_quiet (fail); try go_wp2)
       go_ret
       exact ⟨by first | rfl | (simp [errW_none, errW_some] <;> rfl) | (simp [*, errW_none, errW_some] <;> rfl), by repeat (first | (with_reducible first | exact HB.out | apply below_alloc | apply pw_below_drewN | apply below_drew1 | refine below_set ?_ GE219.out) | exact HB.out)⟩
    case rest =>
     clear HC9
     try clear c1
     try clear p2
     try clear c4
     try clear c5
     try clear c5b0
     try clear c5b1
     try clear c8
     try clear c11
     try clear c11b0
     try clear c11b1
     try clear c12
     try clear c12b0
     try clear c12b1
     try clear c14
     try clear c18
     try clear c18b0
     try clear c18b1
     try clear hcz10_0
     try clear hcz10_1
     try clear hcz10_2
     try clear hcz15_0
     try clear hcz15_1
     try clear hcz15_2
     try clear hcz16_0
     try clear hcz16_1
     try clear hcz16_2
     try clear hcz17_0
     try clear hcz17_1
     try clear hcz17_2
     try clear hcz19_0
     try clear hcz19_1
     try clear hcz19_2
     try clear hcz20_0
     try clear hcz20_1
     try clear hcz20_2
     try clear hcz7_0
     try clear hcz7_1
     try clear hcz7_2
     try clear hfz10_0
     try clear hfz10_1
     try clear hfz10_2
     try clear hfz15_0
     try clear hfz15_1
     try clear hfz15_2
     try clear hfz16_0
     try clear hfz16_1
     try clear hfz16_2
     try clear hfz17_0
     try clear hfz17_1
     try clear hfz17_2
     try clear hfz19_0
     try clear hfz19_1
     try clear hfz19_2
     try clear hfz20_0
     try clear hfz20_1
     try clear hfz20_2
     try clear hfz7_0
     try clear hfz7_1
     try clear hfz7_2
     try clear p2
     obtain ⟨kq, HA, HJ8, BK219, HB⟩ := hcut
     cases kq with
     | zero => exact absurd HA.out (by simp [impl_nodesOf.j1])
     | succ kj8 =>
      have H := HA.out
      clear HA
      simp only [impl_nodesOf.j1] at H
      have H' := Aside0.mk H
      clear H
      have hcz21_0 : wc.cell? ⟨gb219, 0, none⟩ = some (.int .i64 a0_0) := (blk_cell BK219.out 0).trans rfl
      have hcz21_1 : wc.cell? ⟨gb219, 1, none⟩ = some (.string a0_1) := (blk_cell BK219.out 1).trans rfl
      have hcz21_2 : wc.cell? ⟨gb219, 2, none⟩ = some (.slice A0_2 l0_2.length c0_2) := (blk_cell BK219.out 2).trans rfl
      have hfz21_0 := blk_frozen BK219.out 0
      have hfz21_1 := blk_frozen BK219.out 1
      have hfz21_2 := blk_frozen BK219.out 2
      go_wp2
      repeat (go_quiet (fail); try go_wp2)
      go_loopg [5, 38] kj8 (fun kq v5 v38 w' => ∃ (x5_3 : Int) (x38_3 : Int), v5 = .int .i64 x5_3 ∧ v38 = .int .i64 x38_3 ∧ Aside0 (impl_nodesOf.l0 kq a1 x5_3 l0_2 (l0_2.length : Int) x38_3 = some r) ∧ Aside0 (kq ≤ kj8) ∧ Aside0 (w'.heap[gb219]? = some (.cells #[.int .i64 a0_0, .string a0_1, (.slice A0_2 l0_2.length c0_2)] 29 (0, 0))) ∧ Aside0 (Below w.heap.size w w'))
      case atStart => exact ⟨(1), (0), (by first | rfl | (simp; done) | (simp [*]; done)), (by first | rfl | (simp; done) | (simp [*]; done)), H', ⟨Nat.le_refl _⟩, ⟨by (with_reducible repeat (first | refine blk_drewN ?_ _ | refine blk_drew ?_ | refine blk_alloc ?_ _)); exact BK219.out⟩, ⟨by repeat (first | (with_reducible first | exact HB.out | apply below_alloc | apply pw_below_drewN | apply below_drew1 | refine below_set ?_ GE219.out) | exact HB.out)⟩⟩
      case round =>
       clear H'
       try clear c1
       try clear p2
       try clear c4
       try clear c5
       try clear c5b0
       try clear c5b1
       try clear c8
       try clear c11
       try clear c11b0
       try clear c11b1
       try clear c12
       try clear c12b0
       try clear c12b1
       try clear c14
       try clear c18
       try clear c18b0
       try clear c18b1
       try clear hcz10_0
       try clear hcz10_1
       try clear hcz10_2
       try clear hcz15_0
       try clear hcz15_1
       try clear hcz15_2
       try clear hcz16_0
       try clear hcz16_1
       try clear hcz16_2
       try clear hcz17_0
       try clear hcz17_1
       try clear hcz17_2
       try clear hcz19_0
       try clear hcz19_1
       try clear hcz19_2
       try clear hcz20_0
       try clear hcz20_1
       try clear hcz20_2
       try clear hcz21_0
       try clear hcz21_1
       try clear hcz21_2
       try clear hcz7_0
       try clear hcz7_1
       try clear hcz7_2
       try clear hfz10_0
       try clear hfz10_1
       try clear hfz10_2
       try clear hfz15_0
       try clear hfz15_1
       try clear hfz15_2
       try clear hfz16_0
       try clear hfz16_1
       try clear hfz16_2
       try clear hfz17_0
       try clear hfz17_1
       try clear hfz17_2
       try clear hfz19_0
       try clear hfz19_1
       try clear hfz19_2
       try clear hfz20_0
       try clear hfz20_1
       try clear hfz20_2
       try clear hfz21_0
       try clear hfz21_1
       try clear hfz21_2
       try clear hfz7_0
       try clear hfz7_1
       try clear hfz7_2
       try clear p2
       obtain ⟨x5_3, x38_3, rfl, rfl, HA, HK3, BK219, HB⟩ := hrel
       cases gk with
       | zero => exact absurd HA.out (by simp [impl_nodesOf.l0])
       | succ k3 =>
        have H := HA.out
        clear HA
        simp only [impl_nodesOf.l0] at H
        by_cases c22 : x38_3 < (l0_2.length : Int)
        ·rw [if_pos c22] at H
         have c22b0 : decide (x38_3 < (l0_2.length : Int)) = true := decide_eq_true c22
         clear c22
         by_cases c23 : 0 ≤ x38_3
         ·rw [if_pos c23] at H
          have c23b0 : decide (0 ≤ x38_3) = true := decide_eq_true c23
          clear c23
          by_cases c24 : x38_3 < (l0_2.length : Int)
          ·rw [if_pos c24] at H
           have c24b0 : decide (x38_3 < (l0_2.length : Int)) = true := decide_eq_true c24
           clear c24
           replace H := Option.bind_eq_some_iff.mp H
           obtain ⟨t224, A250, H⟩ := H
           replace H : (impl_nodesOf.l0 k3 a1 (wrap64 (x5_3 + t224)) l0_2 (l0_2.length : Int) (wrap64 (x38_3 + 1))) = some r := H
           have A25 := Aside0.mk A250
           clear A250
           have H' := Aside0.mk H
           clear H
           have p222 : 0 ≤ (x38_3 : Int) := of_decide_eq_true (by first | (with_reducible assumption) | assumption)
           have q222 : x38_3 < (l0_2.length : Int) := of_decide_eq_true (by first | (with_reducible assumption) | assumption)
           obtain ⟨ad222, A222_2, c222_2, e222, hx222_0, hx222_1, hx222_2, hl222_2, hi222_2⟩ := at_T29 HR0_2.out x38_3 p222 q222
           cases e222
           replace hx222_0 := (HB.out.cell (World.block_lt_of_cell? w _ hx222_0)).trans hx222_0
           replace hx222_1 := (HB.out.cell (World.block_lt_of_cell? w _ hx222_1)).trans hx222_1
           replace hx222_2 := (HB.out.cell (World.block_lt_of_cell? w _ hx222_2)).trans hx222_2
           have HR222_2 := Aside0.mk hi222_2
           have HC222_2 := Aside0.mk hl222_2
           clear hi222_2 hl222_2
           replace p222 := eq_true p222
           replace q222 := eq_true q222
           go_wp2_with (first | ((with_reducible refine gate_dst (N := 7) rfl ?_); (try (refine gate_guard (by rfl) ?_; dsimp only)); refine box_event ?hg (N := 7) ?hd (cs := #[.int .i64 0, .string (⟨#[]⟩ : ByteArray), .slice none 0 0]) (t := 29) ?hr ?_; (case hd => rfl); (case hg => rfl); (case hr => first | (go_simp; done) | (go_simp; rfl)); intro gb223 hg w26 hbox hb; have n0_ := Aside0.mk (blk_below (g := gb219) (o := .cells #[.int .i64 a0_0, .string a0_1, .slice (some ad222) l0_2.length c0_2] 29 (0, 0)) (by (with_reducible repeat (first | refine blk_drewN ?_ _ | refine blk_drew ?_ | refine blk_alloc ?_ _)); exact BK219.out) hb); have n1_ := Aside0.mk (below_step (by repeat (first | (with_reducible first | exact HB.out | apply below_alloc | apply pw_below_drewN | apply below_drew1 | refine below_set ?_ GE219.out) | exact HB.out)) hb); have n2_ := Aside0.mk (hbox); have n3_ := Aside0.mk ((by rw [hg]; exact (below_size (by repeat (first | (with_reducible first | exact HB.out | apply below_alloc | apply pw_below_drewN | apply below_drew1 | refine below_set ?_ GE219.out) | exact HB.out))) : w.heap.size ≤ gb223)); have n4_ := Aside0.mk ((by rw [hg]; exact (below_size (by repeat (first | (with_reducible first | exact HB.out | apply below_alloc | apply pw_below_drewN | apply below_drew1 | refine below_set ?_ GE219.out) | exact HB.out))) : w.heap.size ≤ gb223)); have n5_ := Aside0.mk ((by rw [hg]; exact Nat.ne_of_lt (blk_lt (g := gb219) (o := .cells #[.int .i64 a0_0, .string a0_1, .slice (some ad222) l0_2.length c0_2] 29 (0, 0)) (by (with_reducible repeat (first | refine blk_drewN ?_ _ | refine blk_drew ?_ | refine blk_alloc ?_ _)); exact BK219.out)) : gb219 ≠ gb223)); have n6_ := Aside0.mk ((by rw [hg]; exact Nat.ne_of_gt (blk_lt (g := gb219) (o := .cells #[.int .i64 a0_0, .string a0_1, .slice (some ad222) l0_2.length c0_2] 29 (0, 0)) (by (with_reducible repeat (first | refine blk_drewN ?_ _ | refine blk_drew ?_ | refine blk_alloc ?_ _)); exact BK219.out)) : gb223 ≠ gb219)); clear BK219; clear HB; have BK219 := n0_; have HB := n1_; have BK223 := n2_; have GW223 := n3_; have GE223 := n4_; have NB219_223 := n5_; have NB223_219 := n6_; clear n0_ n1_ n2_ n3_ n4_ n5_ n6_; clear hb hbox hg; have hnb27 := NB223_219.out; have hnc27 := NB219_223.out; have hcz28_0 : w26.cell? ⟨gb223, 0, none⟩ = some (.int .i64 0) := (blk_cell BK223.out 0).trans rfl; have hcz28_1 : w26.cell? ⟨gb223, 1, none⟩ = some (.string (⟨#[]⟩ : ByteArray)) := (blk_cell BK223.out 1).trans rfl; have hcz28_2 : w26.cell? ⟨gb223, 2, none⟩ = some (.slice none 0 0) := (blk_cell BK223.out 2).trans rfl; have hfz28_0 := blk_frozen BK223.out 0; have hfz28_1 := blk_frozen BK223.out 1; have hfz28_2 := blk_frozen BK223.out 2) | (go_at_call 44; (with_reducible refine (ih k3 (by have := HJ2.out; have := HJ8.out; have := HK3.out; omega) ((rd_T29 l0_2 x38_3).f0) ((rd_T29 l0_2 x38_3).f1) _ _ ((rd_T29 l0_2 x38_3).f2) (wrap64 (a1 - 1)) t224 _ ?side1 ?side2 A25.out).mono ?_); (case side1 => exact Kd.C_below HR222_2.out (by repeat (first | (with_reducible first | exact HB.out | apply below_alloc | apply pw_below_drewN | apply below_drew1 | refine below_set ?_ GE219.out | refine below_set ?_ GE223.out) | exact HB.out))); (case side2 => exact HC222_2.out); rintro e w29 ⟨rfl, hb⟩; have n0_ := Aside0.mk (blk_below (g := gb219) (o := .cells #[.int .i64 a0_0, .string a0_1, .slice (some ad222) l0_2.length c0_2] 29 (0, 0)) (by (with_reducible repeat (first | refine blk_drewN ?_ _ | refine blk_drew ?_ | refine blk_alloc ?_ _)); refine blk_far ?_ NB219_223.out _; (with_reducible repeat (first | refine blk_drewN ?_ _ | refine blk_drew ?_ | refine blk_alloc ?_ _)); refine blk_far ?_ NB219_223.out _; (with_reducible repeat (first | refine blk_drewN ?_ _ | refine blk_drew ?_ | refine blk_alloc ?_ _)); refine blk_far ?_ NB219_223.out _; (with_reducible repeat (first | refine blk_drewN ?_ _ | refine blk_drew ?_ | refine blk_alloc ?_ _)); exact BK219.out) hb); have n1_ := Aside0.mk (blk_below (g := gb223) (o := .cells #[.int .i64 ((rd_T29 l0_2 x38_3).f0), .string ((rd_T29 l0_2 x38_3).f1), .slice A222_2 ((rd_T29 l0_2 x38_3).f2).length c222_2] 29 (0, 0)) (by (with_reducible repeat (first | refine blk_drewN ?_ _ | refine blk_drew ?_ | refine blk_alloc ?_ _)); refine blk_put (cs := #[.int .i64 ((rd_T29 l0_2 x38_3).f0), .string ((rd_T29 l0_2 x38_3).f1), .slice none 0 0]) ?_ 2 _ rfl; (with_reducible repeat (first | refine blk_drewN ?_ _ | refine blk_drew ?_ | refine blk_alloc ?_ _)); refine blk_put (cs := #[.int .i64 ((rd_T29 l0_2 x38_3).f0), .string (⟨#[]⟩ : ByteArray), .slice none 0 0]) ?_ 1 _ rfl; (with_reducible repeat (first | refine blk_drewN ?_ _ | refine blk_drew ?_ | refine blk_alloc ?_ _)); refine blk_put (cs := #[.int .i64 0, .string (⟨#[]⟩ : ByteArray), .slice none 0 0]) ?_ 0 _ rfl; (with_reducible repeat (first | refine blk_drewN ?_ _ | refine blk_drew ?_ | refine blk_alloc ?_ _)); exact BK223.out) hb); have n2_ := Aside0.mk (below_step (by repeat (first | (with_reducible first | exact HB.out | apply below_alloc | apply pw_below_drewN | apply below_drew1 | refine below_set ?_ GE219.out | refine below_set ?_ GE223.out) | exact HB.out)) hb); clear BK219; clear BK223; clear HB; have BK219 := n0_; have BK223 := n1_; have HB := n2_; clear n0_ n1_ n2_; (try clear hb); (try clear hb2); (try clear hk); (try clear hi)))
           repeat (go_quiet (first | ((with_reducible refine gate_dst (N := 7) rfl ?_); (try (refine gate_guard (by rfl) ?_; dsimp only)); refine box_event ?hg (N := 7) ?hd (cs := #[.int .i64 0, .string (⟨#[]⟩ : ByteArray), .slice none 0 0]) (t := 29) ?hr ?_; (case hd => rfl); (case hg => rfl); (case hr => first | (go_simp; done) | (go_simp; rfl)); intro gb223 hg w26 hbox hb; have n0_ := Aside0.mk (blk_below (g := gb219) (o := .cells #[.int .i64 a0_0, .string a0_1, .slice (some ad222) l0_2.length c0_2] 29 (0, 0)) (by (with_reducible repeat (first | refine blk_drewN ?_ _ | refine blk_drew ?_ | refine blk_alloc ?_ _)); exact BK219.out) hb); have n1_ := Aside0.mk (below_step (by repeat (first | (with_reducible first | exact HB.out | apply below_alloc | apply pw_below_drewN | apply below_drew1 | refine below_set ?_ GE219.out) | exact HB.out)) hb); have n2_ := Aside0.mk (hbox); have n3_ := Aside0.mk ((by rw [hg]; exact (below_size (by repeat (first | (with_reducible first | exact HB.out | apply below_alloc | apply pw_below_drewN | apply below_drew1 | refine below_set ?_ GE219.out) | exact HB.out))) : w.heap.size ≤ gb223)); have n4_ := Aside0.mk ((by rw [hg]; exact (below_size (by repeat (first | (with_reducible first | exact HB.out | apply below_alloc | apply pw_below_drewN | apply below_drew1 | refine below_set ?_ GE219.out) | exact HB.out))) : w.heap.size ≤ gb223)); have n5_ := Aside0.mk ((by rw [hg]; exact Nat.ne_of_lt (blk_lt (g := gb219) (o := .cells #[.int .i64 a0_0, .string a0_1, .slice (some ad222) l0_2.length c0_2] 29 (0, 0)) (by (with_reducible repeat (first | refine blk_drewN ?_ _ | refine blk_drew ?_ | refine blk_alloc ?_ _)); exact BK219.out)) : gb219 ≠ gb223)); have n6_ := Aside0.mk ((by rw [hg]; exact Nat.ne_of_gt (blk_lt (g := gb219) (o := .cells #[.int .i64 a0_0, .string a0_1, .slice (some ad222) l0_2.length c0_2] 29 (0, 0)) (by (with_reducible repeat (first | refine blk_drewN ?_ _ | refine blk_drew ?_ | refine blk_alloc ?_ _)); exact BK219.out)) : gb223 ≠ gb219)); clear BK219; clear HB; have BK219 := n0_; have HB := n1_; have BK223 := n2_; have GW223 := n3_; have GE223 := n4_; have NB219_223 := n5_; have NB223_219 := n6_; clear n0_ n1_ n2_ n3_ n4_ n5_ n6_; clear hb hbox hg; have hnb27 := NB223_219.out; have hnc27 := NB219_223.out; have hcz28_0 : w26.cell? ⟨gb223, 0, none⟩ = some (.int .i64 0) := (blk_cell BK223.out 0).trans rfl; have hcz28_1 : w26.cell? ⟨gb223, 1, none⟩ = some (.string (⟨#[]⟩ : ByteArray)) := (blk_cell BK223.out 1).trans rfl; have hcz28_2 : w26.cell? ⟨gb223, 2, none⟩ = some (.slice none 0 0) := (blk_cell BK223.out 2).trans rfl; have hfz28_0 := blk_frozen BK223.out 0; have hfz28_1 := blk_frozen BK223.out 1; have hfz28_2 := blk_frozen BK223.out 2) | (go_at_call 44; (with_reducible refine (ih k3 (by have := HJ2.out; have := HJ8.out; have := HK3.out; omega) ((rd_T29 l0_2 x38_3).f0) ((rd_T29 l0_2 x38_3).f1) _ _ ((rd_T29 l0_2 x38_3).f2) (wrap64 (a1 - 1)) t224 _ ?side1 ?side2 A25.out).mono ?_); (case side1 => exact Kd.C_below HR222_2.out (by repeat (first | (with_reducible first | exact HB.out | apply below_alloc | apply pw_below_drewN | apply below_drew1 | refine below_set ?_ GE219.out | refine below_set ?_ GE223.out) | exact HB.out))); (case side2 => exact HC222_2.out); rintro e w29 ⟨rfl, hb⟩; have n0_ := Aside0.mk (blk_below (g := gb219) (o := .cells #[.int .i64 a0_0, .string a0_1, .slice (some ad222) l0_2.length c0_2] 29 (0, 0)) (by (with_reducible repeat (first | refine blk_drewN ?_ _ | refine blk_drew ?_ | refine blk_alloc ?_ _)); refine blk_far ?_ NB219_223.out _; (with_reducible repeat (first | refine blk_drewN ?_ _ | refine blk_drew ?_ | refine blk_alloc ?_ _)); refine blk_far ?_ NB219_223.out _; (with_reducible repeat (first | refine blk_drewN ?_ _ | refine blk_drew ?_ | refine blk_alloc ?_ _)); refine blk_far ?_ NB219_223.out _; (with_reducible repeat (first | refine blk_drewN ?_ _ | refine blk_drew ?_ | refine blk_alloc ?_ _)); exact BK219.out) hb); have n1_ := Aside0.mk (blk_below (g := gb223) (o := .cells #[.int .i64 ((rd_T29 l0_2 x38_3).f0), .string ((rd_T29 l0_2 x38_3).f1), .slice A222_2 ((rd_T29 l0_2 x38_3).f2).length c222_2] 29 (0, 0)) (by (with_reducible repeat (first | refine blk_drewN ?_ _ | refine blk_drew ?_ | refine blk_alloc ?_ _)); refine blk_put (cs := #[.int .i64 ((rd_T29 l0_2 x38_3).f0), .string ((rd_T29 l0_2 x38_3).f1), .slice none 0 0]) ?_ 2 _ rfl; (with_reducible repeat (first | refine blk_drewN ?_ _ | refine blk_drew ?_ | refine blk_alloc ?_ _)); refine blk_put (cs := #[.int .i64 ((rd_T29 l0_2 x38_3).f0), .string (⟨#[]⟩ : ByteArray), .slice none 0 0]) ?_ 1 _ rfl; (with_reducible repeat (first | refine blk_drewN ?_ _ | refine blk_drew ?_ | refine blk_alloc ?_ _)); refine blk_put (cs := #[.int .i64 0, .string (⟨#[]⟩ : ByteArray), .slice none 0 0]) ?_ 0 _ rfl; (with_reducible repeat (first | refine blk_drewN ?_ _ | refine blk_drew ?_ | refine blk_alloc ?_ _)); exact BK223.out) hb); have n2_ := Aside0.mk (below_step (by repeat (first | (with_reducible first | exact HB.out | apply below_alloc | apply pw_below_drewN | apply below_drew1 | refine below_set ?_ GE219.out | refine below_set ?_ GE223.out) | exact HB.out)) hb); clear BK219; clear BK223; clear HB; have BK219 := n0_; have BK223 := n1_; have HB := n2_; clear n0_ n1_ n2_; (try clear hb); (try clear hb2); (try clear hk); (try clear hi))); try go_wp2_with (first | ((with_reducible refine gate_dst (N := 7) rfl ?_); (try (refine gate_guard (by rfl) ?_; dsimp only)); refine box_event ?hg (N := 7) ?hd (cs := #[.int .i64 0, .string (⟨#[]⟩ : ByteArray), .slice none 0 0]) (t := 29) ?hr ?_; (case hd => rfl); (case hg => rfl); (case hr => first | (go_simp; done) | (go_simp; rfl)); intro gb223 hg w26 hbox hb; have n0_ := Aside0.mk (blk_below (g := gb219) (o := .cells #[.int .i64 a0_0, .string a0_1, .slice (some ad222) l0_2.length c0_2] 29 (0, 0)) (by (with_reducible repeat (first | refine blk_drewN ?_ _ | refine blk_drew ?_ | refine blk_alloc ?_ _)); exact BK219.out) hb); have n1_ := Aside0.mk (below_step (by repeat (first | (with_reducible first | exact HB.out | apply below_alloc | apply pw_below_drewN | apply below_drew1 | refine below_set ?_ GE219.out) | exact HB.out)) hb); have n2_ := Aside0.mk (hbox); have n3_ := Aside0.mk ((by rw [hg]; exact (below_size (by repeat (first | (with_reducible first | exact HB.out | apply below_alloc | apply pw_below_drewN | apply below_drew1 | refine below_set ?_ GE219.out) | exact HB.out))) : w.heap.size ≤ gb223)); have n4_ := Aside0.mk ((by rw [hg]; exact (below_size (by repeat (first | (with_reducible first | exact HB.out | apply below_alloc | apply pw_below_drewN | apply below_drew1 | refine below_set ?_ GE219.out) | exact HB.out))) : w.heap.size ≤ gb223)); have n5_ := Aside0.mk ((by rw [hg]; exact Nat.ne_of_lt (blk_lt (g := gb219) (o := .cells #[.int .i64 a0_0, .string a0_1, .slice (some ad222) l0_2.length c0_2] 29 (0, 0)) (by (with_reducible repeat (first | refine blk_drewN ?_ _ | refine blk_drew ?_ | refine blk_alloc ?_ _)); exact BK219.out)) : gb219 ≠ gb223)); have n6_ := Aside0.mk ((by rw [hg]; exact Nat.ne_of_gt (blk_lt (g := gb219) (o := .cells #[.int .i64 a0_0, .string a0_1, .slice (some ad222) l0_2.length c0_2] 29 (0, 0)) (by (with_reducible repeat (first | refine blk_drewN ?_ _ | refine blk_drew ?_ | refine blk_alloc ?_ _)); exact BK219.out)) : gb223 ≠ gb219)); clear BK219; clear HB; have BK219 := n0_; have HB := n1_; have BK223 := n2_; have GW223 := n3_; have GE223 := n4_; have NB219_223 := n5_; have NB223_219 := n6_; clear n0_ n1_ n2_ n3_ n4_ n5_ n6_; clear hb hbox hg; have hnb27 := NB223_219.out; have hnc27 := NB219_223.out; have hcz28_0 : w26.cell? ⟨gb223, 0, none⟩ = some (.int .i64 0) := (blk_cell BK223.out 0).trans rfl; have hcz28_1 : w26.cell? ⟨gb223, 1, none⟩ = some (.string (⟨#[]⟩ : ByteArray)) := (blk_cell BK223.out 1).trans rfl; have hcz28_2 : w26.cell? ⟨gb223, 2, none⟩ = some (.slice none 0 0) := (blk_cell BK223.out 2).trans rfl; have hfz28_0 := blk_frozen BK223.out 0; have hfz28_1 := blk_frozen BK223.out 1; have hfz28_2 := blk_frozen BK223.out 2) | (go_at_call 44; (with_reducible refine (ih k3 (by have := HJ2.out; have := HJ8.out; have := HK3.out; omega) ((rd_T29 l0_2 x38_3).f0) ((rd_T29 l0_2 x38_3).f1) _ _ ((rd_T29 l0_2 x38_3).f2) (wrap64 (a1 - 1)) t224 _ ?side1 ?side2 A25.out).mono ?_); (case side1 => exact Kd.C_below HR222_2.out (by repeat (first | (with_reducible first | exact HB.out | apply below_alloc | apply pw_below_drewN | apply below_drew1 | refine below_set ?_ GE219.out | refine below_set ?_ GE223.out) | exact HB.out))); (case side2 => exact HC222_2.out); rintro e w29 ⟨rfl, hb⟩; have n0_ := Aside0.mk (blk_below (g := gb219) (o := .cells #[.int .i64 a0_0, .string a0_1, .slice (some ad222) l0_2.length c0_2] 29 (0, 0)) (by (with_reducible repeat (first | refine blk_drewN ?_ _ | refine blk_drew ?_ | refine blk_alloc ?_ _)); refine blk_far ?_ NB219_223.out _; (with_reducible repeat (first | refine blk_drewN ?_ _ | refine blk_drew ?_ | refine blk_alloc ?_ _)); refine blk_far ?_ NB219_223.out _; (with_reducible repeat (first | refine blk_drewN ?_ _ | refine blk_drew ?_ | refine blk_alloc ?_ _)); refine blk_far ?_ NB219_223.out _; (with_reducible repeat (first | refine blk_drewN ?_ _ | refine blk_drew ?_ | refine blk_alloc ?_ _)); exact BK219.out) hb); have n1_ := Aside0.mk (blk_below (g := gb223) (o := .cells #[.int .i64 ((rd_T29 l0_2 x38_3).f0), .string ((rd_T29 l0_2 x38_3).f1), .slice A222_2 ((rd_T29 l0_2 x38_3).f2).length c222_2] 29 (0, 0)) (by (with_reducible repeat (first | refine blk_drewN ?_ _ | refine blk_drew ?_ | refine blk_alloc ?_ _)); refine blk_put (cs := #[.int .i64 ((rd_T29 l0_2 x38_3).f0), .string ((rd_T29 l0_2 x38_3).f1), .slice none 0 0]) ?_ 2 _ rfl; (with_reducible repeat (first | refine blk_drewN ?_ _ | refine blk_drew ?_ | refine blk_alloc ?_ _)); refine blk_put (cs := #[.int .i64 ((rd_T29 l0_2 x38_3).f0), .string (⟨#[]⟩ : ByteArray), .slice none 0 0]) ?_ 1 _ rfl; (with_reducible repeat (first | refine blk_drewN ?_ _ | refine blk_drew ?_ | refine blk_alloc ?_ _)); refine blk_put (cs := #[.int .i64 0, .string (⟨#[]⟩ : ByteArray), .slice none 0 0]) ?_ 0 _ rfl; (with_reducible repeat (first | refine blk_drewN ?_ _ | refine blk_drew ?_ | refine blk_alloc ?_ _)); exact BK223.out) hb); have n2_ := Aside0.mk (below_step (by repeat (first | (with_reducible first | exact HB.out | apply below_alloc | apply pw_below_drewN | apply below_drew1 | refine below_set ?_ GE219.out | refine below_set ?_ GE223.out) | exact HB.out)) hb); clear BK219; clear BK223; clear HB; have BK219 := n0_; have BK223 := n1_; have HB := n2_; clear n0_ n1_ n2_; (try clear hb); (try clear hb2); (try clear hk); (try clear hi))))
           go_roundg k3
           case measure => have := HJ2.out; have := HJ8.out; have := HK3.out; omega
           case rel => exact ⟨(wrap64 (x5_3 + t224)), (wrap64 (x38_3 + 1)), (by first | rfl | (simp; done) | (simp [*]; done)), (by first | rfl | (simp; done) | (simp [*]; done)), H', ⟨by have := HJ2.out; have := HJ8.out; have := HK3.out; omega⟩, ⟨by (with_reducible repeat (first | refine blk_drewN ?_ _ | refine blk_drew ?_ | refine blk_alloc ?_ _)); exact BK219.out⟩, ⟨by repeat (first | (with_reducible first | exact HB.out | apply below_alloc | apply pw_below_drewN | apply below_drew1 | refine below_set ?_ GE219.out | refine below_set ?_ GE223.out) | exact HB.out)⟩⟩
          ·rw [if_neg c24] at H
           exact absurd H (by simp)
         ·rw [if_neg c23] at H
          exact absurd H (by simp)
        ·rw [if_neg c22] at H
         have c22b0 : decide (x38_3 < (l0_2.length : Int)) = false := decide_eq_false c22
         clear c22
         obtain ⟨ji30, hji30⟩ : ∃ j_ : Int, (mn x5_3 17) = j_ := ⟨_, rfl⟩
         replace H : (some ji30) = some r := by first | (rw [hji30] at H; exact H) | (simp only [hji30] at H ⊢; exact H)
         have hji30_ : (if 17 < x5_3 then 17 else x5_3) = ji30 := hji30
         obtain rfl := Option.some.inj H
         simp only [Option.some.injEq, Prod.mk.injEq] at H
         obtain ⟨rfl⟩ := H
         go_wp2
         repeat (go_quiet (fail); try go_wp2)
         go_ret
         exact ⟨by first | rfl | (simp [errW_none, errW_some] <;> rfl) | (simp only [← hji30]; first | rfl | (simp [errW_none, errW_some] <;> rfl)) | (simp [*, errW_none, errW_some] <;> rfl), by repeat (first | (with_reducible first | exact HB.out | apply below_alloc | apply pw_below_drewN | apply below_drew1 | refine below_set ?_ GE219.out) | exact HB.out)⟩
end Go.Proofs.Ytldgkgdgcfllmaa.P
end
section
namespace Go.Proofs.Ytldgkgdgcfllmaa.P
open Go.RowKit Go.Proofs.YtldgkgdgcfllmaaW.PrintWords Go.Proofs.YtldgkgdgcfllmaaW.PrintLast Go.Proofs.YtldgkgdgcfllmaaW.PrintMore
attribute [local go_sem] max2_int min2_int max_two min_two max_three min_three max_four min_four
set_option linter.unusedVariables false
set_option linter.unusedSimpArgs false
def impl_IsValidRegex.f (k : Nat) (a0_0 : Int) (a0_1 : ByteArray) (l0_2 : List (S29)) : Option (Bool) := (impl_nodesOf.f k a0_0 a0_1 l0_2 6).bind fun t226 => (some (decide (t226 ≤ 16)))
theorem impl_IsValidRegex.mono : ∀ a0 a1 a2 k, LeO (impl_IsValidRegex.f k a0 a1 a2) (impl_IsValidRegex.f (k + 1) a0 a1 a2) := by
  intro a0 a1 a2 k
  unfold impl_IsValidRegex.f
  repeat' first
      | (with_reducible exact impl_nodesOf.mono _ _ _ _ _)
      | (with_reducible exact LeO.refl _)
      | (with_reducible exact LeO.none _)
      | (with_reducible refine LeO.ite ?_ ?_)
      | (with_reducible refine LeO.bind ?_ (fun _ => ?_))
      | exact impl_nodesOf.mono _ _ _ _ _
      | exact LeO.none _
      | refine LeO.ite ?_ ?_
      | refine LeO.bind ?_ (fun _ => ?_)
set_option maxHeartbeats 8000000 in
set_option maxRecDepth 100000 in
theorem impl_IsValidRegex.calls (k : Nat) (a0_0 : Int) (a0_1 : ByteArray) (A0_2 : Option Addr) (c0_2 : Nat) (l0_2 : List (S29)) (r : Bool) (w : World) (hr0_2 : Kd.C k29 w A0_2 l0_2.length l0_2) (hc0_2 : l0_2.length ≤ c0_2) (h : impl_IsValidRegex.f k a0_0 a0_1 l0_2 = some r) :
    Calls Try.prog 18 #[.agg #[.int .i64 a0_0, .string a0_1, .slice A0_2 l0_2.length c0_2]] w fun e w' => e = .returned (.bool r) ∧ Below w.heap.size w w' := by
  have hu29 := Try.underlying29
  have HR0_2 := Aside0.mk hr0_2
  have HC0_2 := Aside0.mk hc0_2
  clear hr0_2 hc0_2
  have HB := Aside0.mk (Below.refl w.heap.size w)
  have H : ((impl_nodesOf.f k a0_0 a0_1 l0_2 6).bind fun t226 => (some (decide (t226 ≤ 16)))) = some r := h
  clear h
  replace H := Option.bind_eq_some_iff.mp H
  obtain ⟨t226, A20, H⟩ := H
  replace H : (some (decide (t226 ≤ 16))) = some r := H
  have A2 := Aside0.mk A20
  clear A20
  obtain rfl := Option.some.inj H
  simp only [Option.some.injEq, Prod.mk.injEq] at H
  obtain ⟨rfl⟩ := H
  go_enter Try.func18, Try.ntmps18
  go_wp2_with (first | ((with_reducible refine gate_dst (N := 1) rfl ?_); refine box_event ?hg (N := 1) ?hd (cs := #[.int .i64 a0_0, .string a0_1, .slice A0_2 l0_2.length c0_2]) (t := 29) ?hr ?_; (case hd => rfl); (case hg => rfl); (case hr => first | (go_simp; done) | (go_simp; rfl)); intro gb225 hg w3 hbox hb; have n0_ := Aside0.mk (below_step (by repeat (first | (with_reducible first | exact HB.out | apply below_alloc | apply pw_below_drewN | apply below_drew1) | exact HB.out)) hb); have n1_ := Aside0.mk (hbox); have n2_ := Aside0.mk ((by rw [hg]; exact (below_size (by repeat (first | (with_reducible first | exact HB.out | apply below_alloc | apply pw_below_drewN | apply below_drew1) | exact HB.out))) : w.heap.size ≤ gb225)); have n3_ := Aside0.mk ((by rw [hg]; exact (below_size (by repeat (first | (with_reducible first | exact HB.out | apply below_alloc | apply pw_below_drewN | apply below_drew1) | exact HB.out))) : w.heap.size ≤ gb225)); clear HB; have HB := n0_; have BK225 := n1_; have GW225 := n2_; have GE225 := n3_; clear n0_ n1_ n2_ n3_; clear hb hbox hg; have hcz4_0 : w3.cell? ⟨gb225, 0, none⟩ = some (.int .i64 a0_0) := (blk_cell BK225.out 0).trans rfl; have hcz4_1 : w3.cell? ⟨gb225, 1, none⟩ = some (.string a0_1) := (blk_cell BK225.out 1).trans rfl; have hcz4_2 : w3.cell? ⟨gb225, 2, none⟩ = some (.slice A0_2 l0_2.length c0_2) := (blk_cell BK225.out 2).trans rfl; have hfz4_0 := blk_frozen BK225.out 0; have hfz4_1 := blk_frozen BK225.out 1; have hfz4_2 := blk_frozen BK225.out 2) | ((with_reducible refine gate_callee (f := 44) rfl ?_); refine goesL_ (some 4) rfl rfl Try.func44 (by kernel_rfl) rfl #[.agg #[.int .i64 a0_0, .string a0_1, .slice A0_2 l0_2.length c0_2], .int .i64 6] rfl (by (try simp only [List.map_toArray, List.map_cons, List.map_nil]); first | done | rfl | (simp only [List.length_drop, List.length_take]; rfl)) ?_; (with_reducible refine (impl_nodesOf.calls k a0_0 a0_1 _ _ l0_2 6 t226 _ ?side1 ?side2 A2.out).mono ?_); (case side1 => repeat (first | exact (Kd.C_below HR0_2.out HB.out) | (with_reducible refine Kd.C_alloc ?_ _) | (with_reducible refine Kd.C_drewN ?_ _) | (with_reducible refine Kd.C_drew ?_))); (case side2 => exact HC0_2.out); rintro e w5 ⟨rfl, hb⟩; refine ⟨_, rfl, ?_⟩; have n0_ := Aside0.mk (blk_below (g := gb225) (o := .cells #[.int .i64 a0_0, .string a0_1, .slice A0_2 l0_2.length c0_2] 29 (0, 0)) (by (with_reducible repeat (first | refine blk_drewN ?_ _ | refine blk_drew ?_ | refine blk_alloc ?_ _)); exact BK225.out) hb); have n1_ := Aside0.mk (below_step (by repeat (first | (with_reducible first | exact HB.out | apply below_alloc | apply pw_below_drewN | apply below_drew1 | refine below_set ?_ GE225.out) | exact HB.out)) hb); clear BK225; clear HB; have BK225 := n0_; have HB := n1_; clear n0_ n1_; (try clear hb); (try clear hb2); (try clear hk); (try clear hi)))
  go_ret
  exact ⟨by first | rfl | (simp [errW_none, errW_some] <;> rfl) | (simp [*, errW_none, errW_some] <;> rfl), by repeat (first | (with_reducible first | exact HB.out | apply below_alloc | apply pw_below_drewN | apply below_drew1 | refine below_set ?_ GE225.out) | exact HB.out)⟩
end Go.Proofs.Ytldgkgdgcfllmaa.P
end
section
namespace Go.Proofs.Ytldgkgdgcfllmaa.Rg
open Go.RowKit Go.Shelf Go.Proofs.Ytldgkgdgcfllmaa.P Go.Proofs.Ytldgkgdgcfllmaa.Pl Go.Proofs.YtldgkgdgcfllmaaW.PrintWords Go.Proofs.YtldgkgdgcfllmaaW.PrintLast Go.Proofs.YtldgkgdgcfllmaaW.PrintMore
set_option linter.unusedVariables false
set_option linter.unusedSimpArgs false
theorem size_ev {r : Tr} {x : Rx} (h : Ax r x) : sz x ≤ 100000 → Ev (fun k => impl_size.f k r.f0 r.f1 r.f2) ((sz x : Nat) : Int) := by
  have w1 : wrap64 ((0 : Int) + 1) = 1 := by unfold wrap64; omega
  have w2 : wrap64 ((1 : Int) + 1) = 2 := by unfold wrap64; omega
  have leaf : ∀ (k : Int) (l : ByteArray), Ev (fun q => impl_size.f q k l []) ((1 : Nat) : Int) := fun k l => by
    refine next ?_
    simp only [impl_size.f]
    refine next ?_
    simp only [impl_size.l0, List.length_nil]
    exact Ev.now _
  have one : ∀ (k : Int) (l : ByteArray) (a : Tr) (m : Nat), m ≤ 100000 → Ev (fun q => impl_size.f q a.f0 a.f1 a.f2) ((m : Nat) : Int) → Ev (fun q => impl_size.f q k l [a]) ((1 + m : Nat) : Int) := fun k l a m hm ih => by
    refine next ?_
    simp only [impl_size.f]
    refine next ?_
    simp only [impl_size.l0, List.length_cons, List.length_nil, if_pos (show (0 : Int) < ((0 + 1 : Nat) : Int) by omega), if_pos (show (0 : Int) ≤ 0 by omega), show rd_T29 [a] 0 = a from rfl]
    refine Ev.bind ih ?_
    rw [w1]
    refine next ?_
    simp only [impl_size.l0, if_neg (show ¬ (1 : Int) < ((0 + 1 : Nat) : Int) by omega)]
    exact ev_some (by rw [w64 (by omega) (by omega)]; omega)
  have two : ∀ (k : Int) (l : ByteArray) (a b : Tr) (m n : Nat), m + n ≤ 100000 → Ev (fun q => impl_size.f q a.f0 a.f1 a.f2) ((m : Nat) : Int) → Ev (fun q => impl_size.f q b.f0 b.f1 b.f2) ((n : Nat) : Int) → Ev (fun q => impl_size.f q k l [a, b]) ((1 + m + n : Nat) : Int) := fun k l a b m n hm iha ihb => by
    refine next ?_
    simp only [impl_size.f]
    refine next ?_
    simp only [impl_size.l0, List.length_cons, List.length_nil, if_pos (show (0 : Int) < ((0 + 1 + 1 : Nat) : Int) by omega), if_pos (show (0 : Int) ≤ 0 by omega), show rd_T29 [a, b] 0 = a from rfl]
    refine Ev.bind iha ?_
    rw [w1]
    refine next ?_
    simp only [impl_size.l0, if_pos (show (1 : Int) < ((0 + 1 + 1 : Nat) : Int) by omega), if_pos (show (0 : Int) ≤ 1 by omega), show rd_T29 [a, b] 1 = b from rfl]
    refine Ev.bind ihb ?_
    rw [w2]
    refine next ?_
    simp only [impl_size.l0, if_neg (show ¬ (2 : Int) < ((0 + 1 + 1 : Nat) : Int) by omega)]
    exact ev_some (by rw [w64 (show -9223372036854775808 ≤ (1 : Int) + (m : Int) by omega) (by omega), w64 (by omega) (by omega)]; omega)
  induction h with
  | none l => intro _; exact leaf _ _
  | empty l => intro _; exact leaf _ _
  | letter l => intro _; exact leaf _ _
  | any l => intro _; exact leaf _ _
  | cat l ha hb iha ihb => intro hs; simp only [sz] at hs ⊢; exact two _ _ _ _ _ _ (by omega) (iha (by omega)) (ihb (by omega))
  | or l ha hb iha ihb => intro hs; simp only [sz] at hs ⊢; exact two _ _ _ _ _ _ (by omega) (iha (by omega)) (ihb (by omega))
  | and l ha hb iha ihb => intro hs; simp only [sz] at hs ⊢; exact two _ _ _ _ _ _ (by omega) (iha (by omega)) (ihb (by omega))
  | star l ha iha => intro hs; simp only [sz] at hs ⊢; exact one _ _ _ _ (by omega) (iha (by omega))
  | not l ha iha => intro hs; simp only [sz] at hs ⊢; exact one _ _ _ _ (by omega) (iha (by omega))
theorem cell_far3 {w : World} {a : Addr} {v u0 u1 u2 : Value} {n : Nat} {g : Nat} (h : w.cell? a = some v) (hn : a.block < n) (hg : n ≤ g) : (((w.setCell ⟨g, 0, none⟩ u0).setCell ⟨g, 1, none⟩ u1).setCell ⟨g, 2, none⟩ u2).cell? a = some v := by
  have hne : a.block ≠ g := by omega
  have step : ∀ (w : World) (p : Addr) (u : Value), p.block = g → (w.setCell p u).cell? a = w.cell? a := fun w p u hp => by
    unfold World.cell?
    rw [Below.heap_setCell w p u _ (by rw [hp]; exact hne)]
  rw [step _ _ _ rfl, step _ _ _ rfl, step _ _ _ rfl]
  exact h
def Tf22 : Bool × List (List Nat × List Nat) := (true, [([], []), ([0], [0]), ([1], [1]), ([2], [2]), ([], []), ([4], [4]), ([5], [5]), ([6], [6]), ([], []), ([], []), ([8, 3, 0, 1, 2, 3, 8, 9], [3, 8]), ([9, 7, 10, 0, 1, 2, 3, 4, 5, 6, 7, 8, 9, 10], [7, 9])])
def Bf22 : List Nat := [0, 1, 3, 7, 0, 16, 48, 112, 0, 0, 783, 2047]
theorem tabf22 : rtab .any (opsOf Try.f88 22) = Tf22 := by kernel_rfl
theorem bitsf22 : waitsOk Tf22.2 Bf22 = true := by kernel_rfl
theorem kids {w : World} {A : Option Addr} {a b : Tr} (h : Kd.C k29 w A 2 [a, b]) : ∃ ad A2 c2 A3 c3, A = some ad ∧ (w.cell? ad = some (.int .i64 a.f0) ∧ w.cell? ⟨ad.block, ad.off + 1, none⟩ = some (.string a.f1) ∧ w.cell? ⟨ad.block, ad.off + 2, none⟩ = some (.slice A2 a.f2.length c2)) ∧ a.f2.length ≤ c2 ∧ Kd.C k29 w A2 a.f2.length a.f2 ∧ (w.cell? ⟨ad.block, ad.off + 3, none⟩ = some (.int .i64 b.f0) ∧ w.cell? ⟨ad.block, ad.off + 3 + 1, none⟩ = some (.string b.f1) ∧ w.cell? ⟨ad.block, ad.off + 3 + 2, none⟩ = some (.slice A3 b.f2.length c3)) ∧ b.f2.length ≤ c3 ∧ Kd.C k29 w A3 b.f2.length b.f2 := by
  obtain ⟨ad, A2, c2, e, h0, h1, h2, h3, h4⟩ := kid0 h (by omega)
  obtain ⟨ad', A3, c3, e', g0, g1, g2, g3, g4⟩ := at_T29 h 1 (by omega) (by omega)
  subst e
  obtain rfl := Option.some.inj e'
  rw [show ((1 : Int)).toNat = 1 from rfl, show 1 * 3 = 3 from rfl] at g0 g1 g2
  exact ⟨ad, A2, c2, A3, c3, rfl, ⟨h0, h1, h2⟩, h3, h4, ⟨g0, g1, g2⟩, g3, g4⟩
set_option maxHeartbeats 8000000 in
set_option maxRecDepth 100000 in
theorem findTwo (w0 W : World) (gm g : Nat) (s : ByteArray) (N : Nat) (E : Nat → Bool) (t : List Int) (x y : Rx) (r q : Tr) (kk : Int) (l : ByteArray) (A : Option Addr) (c id i j : Nat) (res : Bool) (hi : i ≤ j) (hj : j ≤ s.size) (hs : s.size ≤ 1000) (hid : id ≤ 1000) (hsz : sz x ≤ 1000) (hax : Ax r x) (hkk : kk = 5 ∨ kk = 6 ∨ kk = 7) (hC : Kd.C k29 w0 A 2 [r, q]) (hm : Mem w0 W gm g s N t)
    (h5 : kk = 5 → (∀ k, i ≤ k → k ≤ j → mt (bytesOf s) x i k = true → mt (bytesOf s) y k j = true → res = true) ∧ ((∀ k, i ≤ k → k ≤ j → ¬ (mt (bytesOf s) x i k = true ∧ mt (bytesOf s) y k j = true)) → res = false))
    (h6 : kk = 6 → res = (mt (bytesOf s) x i j || mt (bytesOf s) y i j)) (h7 : kk = 7 → res = (mt (bytesOf s) x i j && mt (bytesOf s) y i j))
    (hk : ∀ A2 c2, Kd.C k29 w0 A2 r.f2.length r.f2 → Kid w0 gm g s N E t i j x r A2 c2 ((id : Int) + 1))
    (hk2 : ∀ A2 c2, Kd.C k29 w0 A2 q.f2.length q.f2 → Kid w0 gm g s N E t i j y q A2 c2 ((id : Int) + 1 + (sz x : Int))) :
    Calls Try.prog 88 #[.pointer (some ⟨gm, 0, none⟩), .agg #[.int .i64 kk, .string l, .slice A 2 c], .int .i64 id, .int .i64 i, .int .i64 j] W (Post w0 gm g s N E t W res) := by
  obtain ⟨kz, hkz⟩ := (size_ev hax (by omega)).rounds
  obtain ⟨ad, A2, c2, A3, c3, rfl, ⟨a0, a1, a2⟩, a3, a4, ⟨b0, b1, b2⟩, b3, b4⟩ := kids hC
  have HKD := Aside0.mk (hk A2 c2 a4)
  have HKE := Aside0.mk (hk2 A3 c3 b4)
  have HSZ := Aside0.mk hkz
  have HA4 := Aside0.mk a4
  have HA3 := Aside0.mk a3
  have B0 : Aside0 (Below W.heap.size W (W.alloc (Obj.cells #[.int .i64 kk, .string l, .slice (some ad) 2 c] 29))) := ⟨below_alloc (Below.refl _ _) _⟩
  have HM1 := Aside0.mk (hm.below B0.out)
  have HBR : Aside0 ((W.alloc (Obj.cells #[.int .i64 kk, .string l, .slice (some ad) 2 c] 29)).heap[W.heap.size]? = some (.cells #[.int .i64 kk, .string l, .slice (some ad) 2 c] 29 (0, 0))) := ⟨blk_new _ _⟩
  have HGL : Aside0 (g < W.heap.size) := ⟨blk_lt hm.row⟩
  have hb2 : World.cell? (W.alloc (Obj.cells #[.int .i64 kk, .string l, .slice (some ad) 2 c] 29)) ⟨W.heap.size, 2, none⟩ = some (.slice (some ad) 2 c) := (blk_cell HBR.out 2).trans rfl
  have k0 := pw_cell_below HM1.out.bel a0
  have k1 := pw_cell_below HM1.out.bel a1
  have k2 := pw_cell_below HM1.out.bel a2
  have k3 := pw_cell_below HM1.out.bel b0
  have k4 := pw_cell_below HM1.out.bel b1
  have k5 := pw_cell_below HM1.out.bel b2
  have HBX := Aside0.mk (below_drew1 (Below.refl (W.alloc (Obj.cells #[.int .i64 kk, .string l, .slice (some ad) 2 c] 29)).heap.size (W.alloc (Obj.cells #[.int .i64 kk, .string l, .slice (some ad) 2 c] 29))))
  have HM2 := Aside0.mk (HM1.out.below HBX.out)
  have HBR2 := Aside0.mk (blk_below HBR.out HBX.out)
  have HB2 := Aside0.mk (below_then B0.out B0.out.size HBX.out)
  have hu := Try.underlying29
  have H5 := Aside0.mk h5
  have H6 := Aside0.mk h6
  have H7 := Aside0.mk h7
  clear hC hm hk hk2 a0 a1 a2 a3 a4 b0 b1 b2 b3 b4 hkz hax h5 h6 h7
  rcases hkk with rfl | rfl | rfl
  all_goals
    go_enter Try.func88, Try.ntmps88
    go_wp2
    refine start_ (n := 12) (S := (fun w' => w'.cell? ⟨W.heap.size, 2, none⟩ = some (.slice (some ad) 2 c) ∧ w'.cell? ad = some (.int .i64 r.f0) ∧ w'.cell? ⟨ad.block, ad.off + 1, none⟩ = some (.string r.f1) ∧ w'.cell? ⟨ad.block, ad.off + 2, none⟩ = some (.slice A2 r.f2.length c2) ∧ w'.cell? ⟨ad.block, ad.off + 3, none⟩ = some (.int .i64 q.f0) ∧ w'.cell? ⟨ad.block, ad.off + 3 + 1, none⟩ = some (.string q.f1) ∧ w'.cell? ⟨ad.block, ad.off + 3 + 2, none⟩ = some (.slice A3 q.f2.length c3))) (ds := [11]) #[false, false, false, false, false, false, false, false, false, false, false, false] (by kernel_rfl) rfl rfl (⟨hb2, k0, k1, k2, k3, k4, k5⟩) (fun hHeld => ?_); refine with_tabW tabf22 bitsf22 (fun HT_ HW_ => ?_)
    clear hb2 k0 k1 k2 k3 k4 k5
    generalize World.drew (W.alloc _) = Wd at HM2 HBR2 HB2 hHeld ⊢
    have HHD := Aside0.mk hHeld
    refine pure_ (i := 0) (N := some 88) (v := ?_) (a' := ?_) #[true, false, false, false, false, false, false, false, false, false, false, false] rfl rfl (any_of HT_.out (by kernel_rfl)) (fun _ _ _ h => h) (Or.inl ⟨by rfl, ?_⟩) ?_ ?_
    rotate_left
    · intro w'
      go_simp
      with_reducible rfl
    rotate_left
    · simp only [Act.put, List.setIfInBounds_toArray, List.set_cons_zero, List.set_cons_succ, i64_w, i32_w]
      rfl
    refine pure_ (i := 4) (N := some 92) (v := ?_) (a' := ?_) #[true, false, false, false, true, false, false, false, false, false, false, false] rfl rfl (any_of HT_.out (by kernel_rfl)) (fun _ _ _ h => h) (Or.inl ⟨by rfl, ?_⟩) ?_ ?_
    rotate_left
    · intro w'
      go_simp
      with_reducible rfl
    rotate_left
    · simp only [Act.put, List.setIfInBounds_toArray, List.set_cons_zero, List.set_cons_succ, i64_w, i32_w]
      rfl
    refine take_ (i := 1) (N := some 89) (v := ?_) (a' := ?_) #[true, true, false, false, true, false, false, false, false, false, false, false] rfl rfl (take_ofW HT_.out HW_.out (by kernel_rfl)) (fun _ _ _ h => h) (Or.inl ⟨by rfl, ?_⟩) hHeld ?_ ?_
    rotate_left
    · rintro w' ⟨t0, t1, t2, t3, t4, t5, t6⟩
      go_simp
      with_reducible rfl
    rotate_left
    · simp only [Act.put, List.setIfInBounds_toArray, List.set_cons_zero, List.set_cons_succ, i64_w, i32_w]
      rfl
    refine pure_ (i := 2) (N := some 90) (v := ?_) (a' := ?_) #[true, true, true, false, true, false, false, false, false, false, false, false] rfl rfl (any_of HT_.out (by kernel_rfl)) (fun _ _ _ h => h) (Or.inl ⟨by rfl, ?_⟩) ?_ ?_
    rotate_left
    · intro w'
      go_simp
      with_reducible rfl
    rotate_left
    · simp only [Act.put, List.setIfInBounds_toArray, List.set_cons_zero, List.set_cons_succ, i64_w, i32_w]
      rfl
    refine take_ (i := 3) (N := some 91) (v := ?_) (a' := ?_) #[true, true, true, true, true, false, false, false, false, false, false, false] rfl rfl (take_ofW HT_.out HW_.out (by kernel_rfl)) (fun _ _ _ h => h) (Or.inl ⟨by rfl, ?_⟩) hHeld ?_ ?_
    rotate_left
    · rintro w' ⟨t0, t1, t2, t3, t4, t5, t6⟩
      go_simp
      with_reducible rfl
    rotate_left
    · simp only [Act.put, List.setIfInBounds_toArray, List.set_cons_zero, List.set_cons_succ, i64_w, i32_w]
      rfl
    refine take_ (i := 5) (N := some 93) (v := ?_) (a' := ?_) #[true, true, true, true, true, true, false, false, false, false, false, false] rfl rfl (take_ofW HT_.out HW_.out (by kernel_rfl)) (fun _ _ _ h => h) (Or.inl ⟨by rfl, ?_⟩) hHeld ?_ ?_
    rotate_left
    · rintro w' ⟨t0, t1, t2, t3, t4, t5, t6⟩
      go_simp
      with_reducible rfl
    rotate_left
    · simp only [Act.put, List.setIfInBounds_toArray, List.set_cons_zero, List.set_cons_succ, i64_w, i32_w]
      rfl
    refine pure_ (i := 6) (N := some 94) (v := ?_) (a' := ?_) #[true, true, true, true, true, true, true, false, false, false, false, false] rfl rfl (any_of HT_.out (by kernel_rfl)) (fun _ _ _ h => h) (Or.inl ⟨by rfl, ?_⟩) ?_ ?_
    rotate_left
    · intro w'
      go_simp
      with_reducible rfl
    rotate_left
    · simp only [Act.put, List.setIfInBounds_toArray, List.set_cons_zero, List.set_cons_succ, i64_w, i32_w]
      rfl
    refine take_ (i := 7) (N := some 95) (v := ?_) (a' := ?_) #[true, true, true, true, true, true, true, true, false, false, false, false] rfl rfl (take_ofW HT_.out HW_.out (by kernel_rfl)) (fun _ _ _ h => h) (Or.inl ⟨by rfl, ?_⟩) hHeld ?_ ?_
    rotate_left
    · rintro w' ⟨t0, t1, t2, t3, t4, t5, t6⟩
      go_simp
      with_reducible rfl
    rotate_left
    · simp only [Act.put, List.setIfInBounds_toArray, List.set_cons_zero, List.set_cons_succ, i64_w, i32_w]
      rfl
    refine join_ (σ := Nat × Nat) 2 #[true, true, true, true, true, true, true, true, true, true, false, false] (fun s_ => [(12, .pointer (some ⟨s_.1, 0, none⟩)), (13, .pointer (some ⟨s_.2, 0, none⟩))]) (fun s_ w' => (w'.cell? ⟨W.heap.size, 2, none⟩ = some (.slice (some ad) 2 c) ∧ w'.cell? ad = some (.int .i64 r.f0) ∧ w'.cell? ⟨ad.block, ad.off + 1, none⟩ = some (.string r.f1) ∧ w'.cell? ⟨ad.block, ad.off + 2, none⟩ = some (.slice A2 r.f2.length c2) ∧ w'.cell? ⟨ad.block, ad.off + 3, none⟩ = some (.int .i64 q.f0) ∧ w'.cell? ⟨ad.block, ad.off + 3 + 1, none⟩ = some (.string q.f1) ∧ w'.cell? ⟨ad.block, ad.off + 3 + 2, none⟩ = some (.slice A3 q.f2.length c3)) ∧ Below Wd.heap.size Wd w' ∧ w'.heap[s_.1]? = some (.cells #[.int .i64 0, .string ⟨#[]⟩, .slice none 0 0] 29 (0, 0)) ∧ w'.heap[s_.2]? = some (.cells #[.int .i64 0, .string ⟨#[]⟩, .slice none 0 0] 29 (0, 0)) ∧ Wd.heap.size ≤ s_.1 ∧ Wd.heap.size ≤ s_.2 ∧ s_.1 ≠ s_.2) ?_ ?_
    rotate_left
    · intro hCont
      refine two_ (i := 8) (j := 9) (Ni := some 12) (Nj := some 13) #[true, true, true, true, true, true, true, true, true, false, false, false] #[true, true, true, true, true, true, true, true, false, true, false, false] rfl rfl rfl rfl (two_of HT_.out (by kernel_rfl)) (by decide) (by decide) (fun K hK => ?_) (fun K hK => ?_)
      · skip
        refine box_step ?hg (N := 12) ?hd (cs := #[.int .i64 0, .string ⟨#[]⟩, .slice none 0 0]) (t := 29) ?hr ?_; (case hd => rfl); (case hg => rfl); (case hr => first | (go_simp; done) | (go_simp; rfl))
        intro ga ha wa hxa hb
        have hsa := hb.size
        refine hK.out _ _ ⟨pw_cell_below hb hHeld.1, pw_cell_below hb hHeld.2.1, pw_cell_below hb hHeld.2.2.1, pw_cell_below hb hHeld.2.2.2.1, pw_cell_below hb hHeld.2.2.2.2.1, pw_cell_below hb hHeld.2.2.2.2.2.1, pw_cell_below hb hHeld.2.2.2.2.2.2⟩ (fun hHeld => ?_)
        clear hK K
        refine norm_ (a' := ?_) ?_ ?_
        rotate_left
        · show Act.put _ (some 12) _ = _
          simp only [Act.put, List.setIfInBounds_toArray, List.set_cons_zero, List.set_cons_succ, i64_w, i32_w]
          rfl
        refine one_ (i := 9) (N := some 13) #[true, true, true, true, true, true, true, true, true, true, false, false] rfl rfl (one_of HT_.out (by kernel_rfl)) (by decide) (fun K hK => ?_)
        refine box_step ?hg (N := 13) ?hd (cs := #[.int .i64 0, .string ⟨#[]⟩, .slice none 0 0]) (t := 29) ?hr ?_; (case hd => rfl); (case hg => rfl); (case hr => first | (go_simp; done) | (go_simp; rfl))
        intro gc hc wc hxc hb2
        refine hK.out _ _ ⟨pw_cell_below hb2 hHeld.1, pw_cell_below hb2 hHeld.2.1, pw_cell_below hb2 hHeld.2.2.1, pw_cell_below hb2 hHeld.2.2.2.1, pw_cell_below hb2 hHeld.2.2.2.2.1, pw_cell_below hb2 hHeld.2.2.2.2.2.1, pw_cell_below hb2 hHeld.2.2.2.2.2.2⟩ (fun hHeld => ?_)
        clear hK K
        refine norm_ (a' := ?_) ?_ ?_
        rotate_left
        · show Act.put _ (some 13) _ = _
          simp only [Act.put, List.setIfInBounds_toArray, List.set_cons_zero, List.set_cons_succ, i64_w, i32_w]
          rfl
        have hla := blk_lt hxa
        exact norm_ (by simp only [putAll, Act.put, List.setIfInBounds_toArray, List.set_cons_zero, List.set_cons_succ]) (hCont (ga, gc) _ ⟨hHeld, below_then hb hb.size hb2, blk_below hxa hb2, hxc, by show Wd.heap.size ≤ ga; omega, by show Wd.heap.size ≤ gc; omega, by show ga ≠ gc; omega⟩)
      · skip
        refine box_step ?hg (N := 13) ?hd (cs := #[.int .i64 0, .string ⟨#[]⟩, .slice none 0 0]) (t := 29) ?hr ?_; (case hd => rfl); (case hg => rfl); (case hr => first | (go_simp; done) | (go_simp; rfl))
        intro ga ha wa hxa hb
        have hsa := hb.size
        refine hK.out _ _ ⟨pw_cell_below hb hHeld.1, pw_cell_below hb hHeld.2.1, pw_cell_below hb hHeld.2.2.1, pw_cell_below hb hHeld.2.2.2.1, pw_cell_below hb hHeld.2.2.2.2.1, pw_cell_below hb hHeld.2.2.2.2.2.1, pw_cell_below hb hHeld.2.2.2.2.2.2⟩ (fun hHeld => ?_)
        clear hK K
        refine norm_ (a' := ?_) ?_ ?_
        rotate_left
        · show Act.put _ (some 13) _ = _
          simp only [Act.put, List.setIfInBounds_toArray, List.set_cons_zero, List.set_cons_succ, i64_w, i32_w]
          rfl
        refine one_ (i := 8) (N := some 12) #[true, true, true, true, true, true, true, true, true, true, false, false] rfl rfl (one_of HT_.out (by kernel_rfl)) (by decide) (fun K hK => ?_)
        refine box_step ?hg (N := 12) ?hd (cs := #[.int .i64 0, .string ⟨#[]⟩, .slice none 0 0]) (t := 29) ?hr ?_; (case hd => rfl); (case hg => rfl); (case hr => first | (go_simp; done) | (go_simp; rfl))
        intro gc hc wc hxc hb2
        refine hK.out _ _ ⟨pw_cell_below hb2 hHeld.1, pw_cell_below hb2 hHeld.2.1, pw_cell_below hb2 hHeld.2.2.1, pw_cell_below hb2 hHeld.2.2.2.1, pw_cell_below hb2 hHeld.2.2.2.2.1, pw_cell_below hb2 hHeld.2.2.2.2.2.1, pw_cell_below hb2 hHeld.2.2.2.2.2.2⟩ (fun hHeld => ?_)
        clear hK K
        refine norm_ (a' := ?_) ?_ ?_
        rotate_left
        · show Act.put _ (some 12) _ = _
          simp only [Act.put, List.setIfInBounds_toArray, List.set_cons_zero, List.set_cons_succ, i64_w, i32_w]
          rfl
        have hla := blk_lt hxa
        exact norm_ (by simp only [putAll, Act.put, List.setIfInBounds_toArray, List.set_cons_zero, List.set_cons_succ]) (hCont (gc, ga) _ ⟨hHeld, below_then hb hb.size hb2, hxc, blk_below hxa hb2, by show Wd.heap.size ≤ gc; omega, by show Wd.heap.size ≤ ga; omega, by show gc ≠ ga; omega⟩)
    rintro ⟨g12, g13⟩ wj ⟨hHeld, hbj, h12, h13, l12, l13, hne⟩
    have hg0 : wj.cell? ⟨g12, 0, none⟩ = some (.int .i64 0) := (blk_cell h12 0).trans rfl
    have hg1 : wj.cell? ⟨g12, 1, none⟩ = some (.string ⟨#[]⟩) := (blk_cell h12 1).trans rfl
    have hg2 : wj.cell? ⟨g12, 2, none⟩ = some (.slice none 0 0) := (blk_cell h12 2).trans rfl
    have hf0 := blk_frozen h12 0
    have hf1 := blk_frozen h12 1
    have hf2 := blk_frozen h12 2
    have hne2 := hne.symm
    refine norm_ (a' := ?_) ?_ ?_
    rotate_left
    · simp only [putAll, Act.put, List.setIfInBounds_toArray, List.set_cons_zero, List.set_cons_succ]
      rfl
    refine one_ (i := 10) (N := none) #[true, true, true, true, true, true, true, true, true, true, true, false] rfl rfl (one_of HT_.out (by kernel_rfl)) (by decide) (fun K hK => ?_)
    refine skip_ (w1 := ?_) (by rfl) rfl ?_ ?_
    rotate_left
    · go_simp
      rfl
    refine hK.out _ _ ⟨cell_far3 (hHeld.1) (World.block_lt_of_cell? Wd _ (HHD.out.1)) l12, cell_far3 (hHeld.2.1) (World.block_lt_of_cell? Wd _ (HHD.out.2.1)) l12, cell_far3 (hHeld.2.2.1) (World.block_lt_of_cell? Wd _ (HHD.out.2.2.1)) l12, cell_far3 (hHeld.2.2.2.1) (World.block_lt_of_cell? Wd _ (HHD.out.2.2.2.1)) l12, cell_far3 (hHeld.2.2.2.2.1) (World.block_lt_of_cell? Wd _ (HHD.out.2.2.2.2.1)) l12, cell_far3 (hHeld.2.2.2.2.2.1) (World.block_lt_of_cell? Wd _ (HHD.out.2.2.2.2.2.1)) l12, cell_far3 (hHeld.2.2.2.2.2.2) (World.block_lt_of_cell? Wd _ (HHD.out.2.2.2.2.2.2)) l12⟩ (fun hHeld => ?_)
    clear hK K hg0 hg1 hg2 hf0 hf1 hf2
    have h12a := blk_put (cs' := #[.int .i64 r.f0, .string r.f1, .slice A2 r.f2.length c2]) (blk_put (cs' := #[.int .i64 r.f0, .string r.f1, .slice none 0 0]) (blk_put (cs' := #[.int .i64 r.f0, .string ⟨#[]⟩, .slice none 0 0]) h12 0 (.int .i64 r.f0) rfl) 1 (.string r.f1) rfl) 2 (.slice A2 r.f2.length c2) rfl
    have h13a := blk_far (p := ⟨g12, 2, none⟩) (blk_far (p := ⟨g12, 1, none⟩) (blk_far (p := ⟨g12, 0, none⟩) h13 hne2 (.int .i64 r.f0)) hne2 (.string r.f1)) hne2 (.slice A2 r.f2.length c2)
    have hbj2 := below_set (j := 2) (v := .slice A2 r.f2.length c2) (below_set (j := 1) (v := .string r.f1) (below_set (j := 0) (v := .int .i64 r.f0) hbj l12) l12) l12
    generalize (((wj.setCell ⟨g12, 0, none⟩ (.int .i64 r.f0)).setCell ⟨g12, 1, none⟩ (.string r.f1)).setCell ⟨g12, 2, none⟩ (.slice A2 r.f2.length c2)) = wk at h12a h13a hbj2 hHeld ⊢
    have hg0 : wk.cell? ⟨g13, 0, none⟩ = some (.int .i64 0) := (blk_cell h13a 0).trans rfl
    have hg1 : wk.cell? ⟨g13, 1, none⟩ = some (.string ⟨#[]⟩) := (blk_cell h13a 1).trans rfl
    have hg2 : wk.cell? ⟨g13, 2, none⟩ = some (.slice none 0 0) := (blk_cell h13a 2).trans rfl
    have hf0 := blk_frozen h13a 0
    have hf1 := blk_frozen h13a 1
    have hf2 := blk_frozen h13a 2
    refine last_ (i := 11) (N := none) #[true, true, true, true, true, true, true, true, true, true, true, true] rfl rfl (one_of HT_.out (by kernel_rfl)) (by decide) (fun K hK => ?_)
    refine skip_ (w1 := ?_) (by rfl) rfl ?_ ?_
    rotate_left
    · go_simp
      rfl
    refine hK.out _ _ ?_
    clear hK K hg0 hg1 hg2 hf0 hf1 hf2
    refine done_ (done_of HT_.out (by kernel_rfl)) ?_
    have h13b := blk_put (cs' := #[.int .i64 q.f0, .string q.f1, .slice A3 q.f2.length c3]) (blk_put (cs' := #[.int .i64 q.f0, .string q.f1, .slice none 0 0]) (blk_put (cs' := #[.int .i64 q.f0, .string ⟨#[]⟩, .slice none 0 0]) h13a 0 (.int .i64 q.f0) rfl) 1 (.string q.f1) rfl) 2 (.slice A3 q.f2.length c3) rfl
    have h12b := blk_far (p := ⟨g13, 2, none⟩) (blk_far (p := ⟨g13, 1, none⟩) (blk_far (p := ⟨g13, 0, none⟩) h12a hne (.int .i64 q.f0)) hne (.string q.f1)) hne (.slice A3 q.f2.length c3)
    have hbj3 := below_set (j := 2) (v := .slice A3 q.f2.length c3) (below_set (j := 1) (v := .string q.f1) (below_set (j := 0) (v := .int .i64 q.f0) hbj2 l13) l13) l13
    have H12 := Aside0.mk h12b
    have H13 := Aside0.mk h13b
    have HM5 := Aside0.mk (HM2.out.below hbj3)
    have HBR5 := Aside0.mk (blk_below HBR2.out hbj3)
    have HB5 := Aside0.mk (below_then HB2.out HB2.out.size hbj3)
    have HN12 : Aside0 (g12 ≠ g ∧ g13 ≠ g ∧ W.heap.size ≠ g) := ⟨by have := HB2.out.size; have := HGL.out; omega, by have := HB2.out.size; have := HGL.out; omega, by have := HGL.out; omega⟩
    clear HT_ HW_ hHeld HHD h12 h13 h12a h13a h12b h13b hbj hbj2 hbj3 l12 l13 hne hne2 HM1 HM2 HBR HBR2 HBX HB2 B0
    generalize (((wk.setCell ⟨g13, 0, none⟩ (.int .i64 q.f0)).setCell ⟨g13, 1, none⟩ (.string q.f1)).setCell ⟨g13, 2, none⟩ (.slice A3 q.f2.length c3)) = wm at H12 H13 HM5 HBR5 HB5 ⊢
    have y0 := (blk_cell H12.out 0).trans rfl
    have y1 := (blk_cell H12.out 1).trans rfl
    have y2 := (blk_cell H12.out 2).trans rfl
  · obtain ⟨HT0, HN0⟩ := H5.out (by first | exact rfl | exact trivial)
    have HT := Aside0.mk HT0
    have HN := Aside0.mk HN0
    clear HT0 HN0
    go_wp2_with (go_at_call 79; (with_reducible refine (impl_size.calls kz r.f0 r.f1 A2 c2 r.f2 _ _ ?s1 HA3.out HSZ.out).mono ?_); (case s1 => exact Kd.C_below HA4.out HM5.out.bel); rintro e w6 ⟨rfl, hb⟩; have HM6 := Aside0.mk (HM5.out.below hb); have HBR6 := Aside0.mk (blk_below HBR5.out hb); have HK6 := Aside0.mk (keep_of_below g (below_then HB5.out HB5.out.size hb)); have H12b := Aside0.mk (blk_below H12.out hb); have H13b := Aside0.mk (blk_below H13.out hb); (try clear z0 z1 z2); have x0 := (blk_cell HBR6.out 0).trans rfl; have x1 := (blk_cell HBR6.out 1).trans rfl; have x2 := (blk_cell HBR6.out 2).trans rfl; have y0 := (blk_cell H12b.out 0).trans rfl; have y1 := (blk_cell H12b.out 1).trans rfl; have y2 := (blk_cell H12b.out 2).trans rfl; have z0 := (blk_cell H13b.out 0).trans rfl; have z1 := (blk_cell H13b.out 1).trans rfl; have z2 := (blk_cell H13b.out 2).trans rfl; have HS6 : Aside0 (St w0 w6 w6 gm g s N E t t) := ⟨St.start HM6.out⟩; clear hb)
    have HIJ := Aside0.mk hi
    clear x0 x1 x2 y0 y1 y2 z0 z1 z2
    go_loopg [15] (j + 2) (fun gg v15 w' => ∃ (k : Nat) (kz' : Int) (t' : List Int), v15 = .int .i64 kz' ∧ Aside0 (kz' = (k : Int)) ∧ Aside0 (i ≤ k ∧ k ≤ j + 1) ∧ Aside0 (j + 2 ≤ gg + k) ∧ Aside0 (∀ p, i ≤ p → p < k → ¬ (mt (bytesOf s) x i p = true ∧ mt (bytesOf s) y p j = true)) ∧ Aside0 (St w0 w6 w' gm g s N E t t'))
    case atStart => exact ⟨i, (i : Int), t, rfl, ⟨rfl⟩, ⟨by have := HIJ.out; omega⟩, ⟨by omega⟩, ⟨fun p a1 a2 => by omega⟩, HS6⟩
    case round =>
      clear HS6
      obtain ⟨k, kz', t', rfl, HKZ, HKK, HG, HNO, HS⟩ := hrel
      cases gk with
      | zero => exact absurd HG.out (by have := HKK.out; omega)
      | succ gk2 =>
      by_cases hkj : k ≤ j
      · have d1 : decide (kz' ≤ (j : Int)) = true := decide_eq_true (by have := HKZ.out; omega)
        have d2 : (kz' ≤ (j : Int)) = True := eq_true (by have := HKZ.out; omega)
        have hw : wrap64 (kz' + 1) = ((k + 1 : Nat) : Int) := by rw [HKZ.out]; exact up1 (by omega)
        have HW := Aside0.mk hw
        have x0 := HS.out.cell ((blk_cell HBR6.out 0).trans rfl) HN12.out.2.2
        have x1 := HS.out.cell ((blk_cell HBR6.out 1).trans rfl) HN12.out.2.2
        have x2 := HS.out.cell ((blk_cell HBR6.out 2).trans rfl) HN12.out.2.2
        have y0 := HS.out.cell ((blk_cell H12b.out 0).trans rfl) HN12.out.1
        have y1 := HS.out.cell ((blk_cell H12b.out 1).trans rfl) HN12.out.1
        have y2 := HS.out.cell ((blk_cell H12b.out 2).trans rfl) HN12.out.1
        have z0 := HS.out.cell ((blk_cell H13b.out 0).trans rfl) HN12.out.2.1
        have z1 := HS.out.cell ((blk_cell H13b.out 1).trans rfl) HN12.out.2.1
        have z2 := HS.out.cell ((blk_cell H13b.out 2).trans rfl) HN12.out.2.1
        have hka := fun W' t' => HKD.out i k W' t' (Nat.le_refl _) HKK.out.1 hkj
        have hkb := fun W' t' => HKE.out k j W' t' HKK.out.1 hkj (Nat.le_refl _)
        rw [← HKZ.out] at hka hkb
        have HCA := Aside0.mk hka
        have HCB := Aside0.mk hkb
        have HNOT : Aside0 (mt (bytesOf s) x i k = true → mt (bytesOf s) y k j = true → res = true) := ⟨HT.out k HKK.out.1 hkj⟩
        have HNEXT : Aside0 (¬ (mt (bytesOf s) x i k = true ∧ mt (bytesOf s) y k j = true) → ∀ p, i ≤ p → p < k + 1 → ¬ (mt (bytesOf s) x i p = true ∧ mt (bytesOf s) y p j = true)) := ⟨fun hh p a1 a2 => by
          by_cases eq : p = k
          · rw [eq]; exact hh
          · exact HNO.out p a1 (by omega)⟩
        generalize mt (bytesOf s) x i k = ra at HCA HNOT HNEXT
        generalize mt (bytesOf s) y k j = rb at HCB HNOT HNEXT
        have HKJ := Aside0.mk hkj
        clear hka hkb hw hkj
        cases ra
        · go_wp2_with (go_at_call 80; (with_reducible refine (HCA.out _ _ HS.out.inv HS.out.mem).mono ?_); rintro e w7ta hp; obtain ⟨rfl, ta, hs2⟩ := HS.out.step hp; have HS7 := Aside0.mk hs2; (try clear x0 x1 x2 y0 y1 y2 z0 z1 z2); have x0 := hs2.cell ((blk_cell HBR6.out 0).trans rfl) HN12.out.2.2; have x1 := hs2.cell ((blk_cell HBR6.out 1).trans rfl) HN12.out.2.2; have x2 := hs2.cell ((blk_cell HBR6.out 2).trans rfl) HN12.out.2.2; have y0 := hs2.cell ((blk_cell H12b.out 0).trans rfl) HN12.out.1; have y1 := hs2.cell ((blk_cell H12b.out 1).trans rfl) HN12.out.1; have y2 := hs2.cell ((blk_cell H12b.out 2).trans rfl) HN12.out.1; have z0 := hs2.cell ((blk_cell H13b.out 0).trans rfl) HN12.out.2.1; have z1 := hs2.cell ((blk_cell H13b.out 1).trans rfl) HN12.out.2.1; have z2 := hs2.cell ((blk_cell H13b.out 2).trans rfl) HN12.out.2.1; clear hp hs2)
          go_roundg gk2
          case measure => omega
          case rel => exact ⟨k + 1, wrap64 (kz' + 1), ta, rfl, HW, ⟨by have := HKK.out; have := HKJ.out; omega⟩, ⟨by have := HG.out; omega⟩, ⟨HNEXT.out (by simp)⟩, HS7⟩
        · cases rb
          · go_wp2_with (first | (go_at_call 80; (with_reducible refine (HCA.out _ _ HS.out.inv HS.out.mem).mono ?_); rintro e w7ta hp; obtain ⟨rfl, ta, hs2⟩ := HS.out.step hp; have HS7 := Aside0.mk hs2; (try clear x0 x1 x2 y0 y1 y2 z0 z1 z2); have x0 := hs2.cell ((blk_cell HBR6.out 0).trans rfl) HN12.out.2.2; have x1 := hs2.cell ((blk_cell HBR6.out 1).trans rfl) HN12.out.2.2; have x2 := hs2.cell ((blk_cell HBR6.out 2).trans rfl) HN12.out.2.2; have y0 := hs2.cell ((blk_cell H12b.out 0).trans rfl) HN12.out.1; have y1 := hs2.cell ((blk_cell H12b.out 1).trans rfl) HN12.out.1; have y2 := hs2.cell ((blk_cell H12b.out 2).trans rfl) HN12.out.1; have z0 := hs2.cell ((blk_cell H13b.out 0).trans rfl) HN12.out.2.1; have z1 := hs2.cell ((blk_cell H13b.out 1).trans rfl) HN12.out.2.1; have z2 := hs2.cell ((blk_cell H13b.out 2).trans rfl) HN12.out.2.1; clear hp hs2) | (go_at_call 80; (with_reducible refine (HCB.out _ _ HS7.out.inv HS7.out.mem).mono ?_); rintro e w7tb hp; obtain ⟨rfl, tb, hs2⟩ := HS7.out.step hp; have HS8 := Aside0.mk hs2; (try clear x0 x1 x2 y0 y1 y2 z0 z1 z2); have x0 := hs2.cell ((blk_cell HBR6.out 0).trans rfl) HN12.out.2.2; have x1 := hs2.cell ((blk_cell HBR6.out 1).trans rfl) HN12.out.2.2; have x2 := hs2.cell ((blk_cell HBR6.out 2).trans rfl) HN12.out.2.2; have y0 := hs2.cell ((blk_cell H12b.out 0).trans rfl) HN12.out.1; have y1 := hs2.cell ((blk_cell H12b.out 1).trans rfl) HN12.out.1; have y2 := hs2.cell ((blk_cell H12b.out 2).trans rfl) HN12.out.1; have z0 := hs2.cell ((blk_cell H13b.out 0).trans rfl) HN12.out.2.1; have z1 := hs2.cell ((blk_cell H13b.out 1).trans rfl) HN12.out.2.1; have z2 := hs2.cell ((blk_cell H13b.out 2).trans rfl) HN12.out.2.1; clear hp hs2))
            go_roundg gk2
            case measure => omega
            case rel => exact ⟨k + 1, wrap64 (kz' + 1), tb, rfl, HW, ⟨by have := HKK.out; have := HKJ.out; omega⟩, ⟨by have := HG.out; omega⟩, ⟨HNEXT.out (by simp)⟩, HS8⟩
          · have hres := HNOT.out rfl rfl
            subst hres
            go_wp2_with (first | (go_at_call 80; (with_reducible refine (HCA.out _ _ HS.out.inv HS.out.mem).mono ?_); rintro e w7ta hp; obtain ⟨rfl, ta, hs2⟩ := HS.out.step hp; have HS7 := Aside0.mk hs2; (try clear x0 x1 x2 y0 y1 y2 z0 z1 z2); have x0 := hs2.cell ((blk_cell HBR6.out 0).trans rfl) HN12.out.2.2; have x1 := hs2.cell ((blk_cell HBR6.out 1).trans rfl) HN12.out.2.2; have x2 := hs2.cell ((blk_cell HBR6.out 2).trans rfl) HN12.out.2.2; have y0 := hs2.cell ((blk_cell H12b.out 0).trans rfl) HN12.out.1; have y1 := hs2.cell ((blk_cell H12b.out 1).trans rfl) HN12.out.1; have y2 := hs2.cell ((blk_cell H12b.out 2).trans rfl) HN12.out.1; have z0 := hs2.cell ((blk_cell H13b.out 0).trans rfl) HN12.out.2.1; have z1 := hs2.cell ((blk_cell H13b.out 1).trans rfl) HN12.out.2.1; have z2 := hs2.cell ((blk_cell H13b.out 2).trans rfl) HN12.out.2.1; clear hp hs2) | (go_at_call 80; (with_reducible refine (HCB.out _ _ HS7.out.inv HS7.out.mem).mono ?_); rintro e w7tb hp; obtain ⟨rfl, tb, hs2⟩ := HS7.out.step hp; have HS8 := Aside0.mk hs2; (try clear x0 x1 x2 y0 y1 y2 z0 z1 z2); have x0 := hs2.cell ((blk_cell HBR6.out 0).trans rfl) HN12.out.2.2; have x1 := hs2.cell ((blk_cell HBR6.out 1).trans rfl) HN12.out.2.2; have x2 := hs2.cell ((blk_cell HBR6.out 2).trans rfl) HN12.out.2.2; have y0 := hs2.cell ((blk_cell H12b.out 0).trans rfl) HN12.out.1; have y1 := hs2.cell ((blk_cell H12b.out 1).trans rfl) HN12.out.1; have y2 := hs2.cell ((blk_cell H12b.out 2).trans rfl) HN12.out.1; have z0 := hs2.cell ((blk_cell H13b.out 0).trans rfl) HN12.out.2.1; have z1 := hs2.cell ((blk_cell H13b.out 1).trans rfl) HN12.out.2.1; have z2 := hs2.cell ((blk_cell H13b.out 2).trans rfl) HN12.out.2.1; clear hp hs2))
            go_ret
            exact HS8.out.post HK6.out
      · have d1 : decide (kz' ≤ (j : Int)) = false := decide_eq_false (by have := HKZ.out; omega)
        have d2 : (kz' ≤ (j : Int)) = False := eq_false (by have := HKZ.out; omega)
        have hres := HN.out (fun p a b => HNO.out p a (by omega))
        subst hres
        go_wp2
        go_ret
        exact HS.out.post HK6.out
  · have HR := H6.out (by first | exact rfl | exact trivial)
    have HCA : Aside0 (∀ W' t', (t'.length = t.length ∧ ∀ c, t'.getD c 0 = t.getD c 0 ∨ t'.getD c 0 = bitv (E c)) → Mem w0 W' gm g s N t' → Calls Try.prog 80 #[.pointer (some ⟨gm, 0, none⟩), .agg #[.int .i64 r.f0, .string r.f1, .slice A2 r.f2.length c2], .int .i64 ((id : Int) + 1), .int .i64 i, .int .i64 j] W' (Post w0 gm g s N E t' W' (mt (bytesOf s) x i j))) := ⟨fun W' t' => HKD.out i j W' t' (Nat.le_refl _) hi (Nat.le_refl _)⟩
    have HCB : Aside0 (∀ W' t', (t'.length = t.length ∧ ∀ c, t'.getD c 0 = t.getD c 0 ∨ t'.getD c 0 = bitv (E c)) → Mem w0 W' gm g s N t' → Calls Try.prog 80 #[.pointer (some ⟨gm, 0, none⟩), .agg #[.int .i64 q.f0, .string q.f1, .slice A3 q.f2.length c3], .int .i64 ((id : Int) + 1 + (sz x : Int)), .int .i64 i, .int .i64 j] W' (Post w0 gm g s N E t' W' (mt (bytesOf s) y i j))) := ⟨fun W' t' => HKE.out i j W' t' (Nat.le_refl _) hi (Nat.le_refl _)⟩
    generalize mt (bytesOf s) x i j = ra at HCA HR
    generalize mt (bytesOf s) y i j = rb at HCB HR
    subst HR
    cases ra
    · cases rb
      all_goals
        go_wp2_with (first | (go_at_call 79; (with_reducible refine (impl_size.calls kz r.f0 r.f1 A2 c2 r.f2 _ _ ?s1 HA3.out HSZ.out).mono ?_); (case s1 => exact Kd.C_below HA4.out HM5.out.bel); rintro e w6 ⟨rfl, hb⟩; have HM6 := Aside0.mk (HM5.out.below hb); have HBR6 := Aside0.mk (blk_below HBR5.out hb); have HK6 := Aside0.mk (keep_of_below g (below_then HB5.out HB5.out.size hb)); have H12b := Aside0.mk (blk_below H12.out hb); have H13b := Aside0.mk (blk_below H13.out hb); (try clear z0 z1 z2); have x0 := (blk_cell HBR6.out 0).trans rfl; have x1 := (blk_cell HBR6.out 1).trans rfl; have x2 := (blk_cell HBR6.out 2).trans rfl; have y0 := (blk_cell H12b.out 0).trans rfl; have y1 := (blk_cell H12b.out 1).trans rfl; have y2 := (blk_cell H12b.out 2).trans rfl; have z0 := (blk_cell H13b.out 0).trans rfl; have z1 := (blk_cell H13b.out 1).trans rfl; have z2 := (blk_cell H13b.out 2).trans rfl; have HS6 : Aside0 (St w0 w6 w6 gm g s N E t t) := ⟨St.start HM6.out⟩; clear hb) | (go_at_call 80; (with_reducible refine (HCA.out _ _ HS6.out.inv HS6.out.mem).mono ?_); rintro e w7ta hp; obtain ⟨rfl, ta, hs2⟩ := HS6.out.step hp; have HS7 := Aside0.mk hs2; (try clear x0 x1 x2 y0 y1 y2 z0 z1 z2); have x0 := hs2.cell ((blk_cell HBR6.out 0).trans rfl) HN12.out.2.2; have x1 := hs2.cell ((blk_cell HBR6.out 1).trans rfl) HN12.out.2.2; have x2 := hs2.cell ((blk_cell HBR6.out 2).trans rfl) HN12.out.2.2; have y0 := hs2.cell ((blk_cell H12b.out 0).trans rfl) HN12.out.1; have y1 := hs2.cell ((blk_cell H12b.out 1).trans rfl) HN12.out.1; have y2 := hs2.cell ((blk_cell H12b.out 2).trans rfl) HN12.out.1; have z0 := hs2.cell ((blk_cell H13b.out 0).trans rfl) HN12.out.2.1; have z1 := hs2.cell ((blk_cell H13b.out 1).trans rfl) HN12.out.2.1; have z2 := hs2.cell ((blk_cell H13b.out 2).trans rfl) HN12.out.2.1; clear hp hs2) | (go_at_call 80; (with_reducible refine (HCB.out _ _ HS7.out.inv HS7.out.mem).mono ?_); rintro e w7tb hp; obtain ⟨rfl, tb, hs2⟩ := HS7.out.step hp; have HS8 := Aside0.mk hs2; (try clear x0 x1 x2 y0 y1 y2 z0 z1 z2); have x0 := hs2.cell ((blk_cell HBR6.out 0).trans rfl) HN12.out.2.2; have x1 := hs2.cell ((blk_cell HBR6.out 1).trans rfl) HN12.out.2.2; have x2 := hs2.cell ((blk_cell HBR6.out 2).trans rfl) HN12.out.2.2; have y0 := hs2.cell ((blk_cell H12b.out 0).trans rfl) HN12.out.1; have y1 := hs2.cell ((blk_cell H12b.out 1).trans rfl) HN12.out.1; have y2 := hs2.cell ((blk_cell H12b.out 2).trans rfl) HN12.out.1; have z0 := hs2.cell ((blk_cell H13b.out 0).trans rfl) HN12.out.2.1; have z1 := hs2.cell ((blk_cell H13b.out 1).trans rfl) HN12.out.2.1; have z2 := hs2.cell ((blk_cell H13b.out 2).trans rfl) HN12.out.2.1; clear hp hs2))
        go_ret
        exact HS8.out.post HK6.out
    · rw [Bool.true_or]
      go_wp2_with (first | (go_at_call 79; (with_reducible refine (impl_size.calls kz r.f0 r.f1 A2 c2 r.f2 _ _ ?s1 HA3.out HSZ.out).mono ?_); (case s1 => exact Kd.C_below HA4.out HM5.out.bel); rintro e w6 ⟨rfl, hb⟩; have HM6 := Aside0.mk (HM5.out.below hb); have HBR6 := Aside0.mk (blk_below HBR5.out hb); have HK6 := Aside0.mk (keep_of_below g (below_then HB5.out HB5.out.size hb)); have H12b := Aside0.mk (blk_below H12.out hb); have H13b := Aside0.mk (blk_below H13.out hb); (try clear z0 z1 z2); have x0 := (blk_cell HBR6.out 0).trans rfl; have x1 := (blk_cell HBR6.out 1).trans rfl; have x2 := (blk_cell HBR6.out 2).trans rfl; have y0 := (blk_cell H12b.out 0).trans rfl; have y1 := (blk_cell H12b.out 1).trans rfl; have y2 := (blk_cell H12b.out 2).trans rfl; have z0 := (blk_cell H13b.out 0).trans rfl; have z1 := (blk_cell H13b.out 1).trans rfl; have z2 := (blk_cell H13b.out 2).trans rfl; have HS6 : Aside0 (St w0 w6 w6 gm g s N E t t) := ⟨St.start HM6.out⟩; clear hb) | (go_at_call 80; (with_reducible refine (HCA.out _ _ HS6.out.inv HS6.out.mem).mono ?_); rintro e w7ta hp; obtain ⟨rfl, ta, hs2⟩ := HS6.out.step hp; have HS7 := Aside0.mk hs2; (try clear x0 x1 x2 y0 y1 y2 z0 z1 z2); have x0 := hs2.cell ((blk_cell HBR6.out 0).trans rfl) HN12.out.2.2; have x1 := hs2.cell ((blk_cell HBR6.out 1).trans rfl) HN12.out.2.2; have x2 := hs2.cell ((blk_cell HBR6.out 2).trans rfl) HN12.out.2.2; have y0 := hs2.cell ((blk_cell H12b.out 0).trans rfl) HN12.out.1; have y1 := hs2.cell ((blk_cell H12b.out 1).trans rfl) HN12.out.1; have y2 := hs2.cell ((blk_cell H12b.out 2).trans rfl) HN12.out.1; have z0 := hs2.cell ((blk_cell H13b.out 0).trans rfl) HN12.out.2.1; have z1 := hs2.cell ((blk_cell H13b.out 1).trans rfl) HN12.out.2.1; have z2 := hs2.cell ((blk_cell H13b.out 2).trans rfl) HN12.out.2.1; clear hp hs2))
      go_ret
      exact HS7.out.post HK6.out
  · have HR := H7.out (by first | exact rfl | exact trivial)
    have HCA : Aside0 (∀ W' t', (t'.length = t.length ∧ ∀ c, t'.getD c 0 = t.getD c 0 ∨ t'.getD c 0 = bitv (E c)) → Mem w0 W' gm g s N t' → Calls Try.prog 80 #[.pointer (some ⟨gm, 0, none⟩), .agg #[.int .i64 r.f0, .string r.f1, .slice A2 r.f2.length c2], .int .i64 ((id : Int) + 1), .int .i64 i, .int .i64 j] W' (Post w0 gm g s N E t' W' (mt (bytesOf s) x i j))) := ⟨fun W' t' => HKD.out i j W' t' (Nat.le_refl _) hi (Nat.le_refl _)⟩
    have HCB : Aside0 (∀ W' t', (t'.length = t.length ∧ ∀ c, t'.getD c 0 = t.getD c 0 ∨ t'.getD c 0 = bitv (E c)) → Mem w0 W' gm g s N t' → Calls Try.prog 80 #[.pointer (some ⟨gm, 0, none⟩), .agg #[.int .i64 q.f0, .string q.f1, .slice A3 q.f2.length c3], .int .i64 ((id : Int) + 1 + (sz x : Int)), .int .i64 i, .int .i64 j] W' (Post w0 gm g s N E t' W' (mt (bytesOf s) y i j))) := ⟨fun W' t' => HKE.out i j W' t' (Nat.le_refl _) hi (Nat.le_refl _)⟩
    generalize mt (bytesOf s) x i j = ra at HCA HR
    generalize mt (bytesOf s) y i j = rb at HCB HR
    subst HR
    cases ra
    · rw [Bool.false_and]
      go_wp2_with (first | (go_at_call 79; (with_reducible refine (impl_size.calls kz r.f0 r.f1 A2 c2 r.f2 _ _ ?s1 HA3.out HSZ.out).mono ?_); (case s1 => exact Kd.C_below HA4.out HM5.out.bel); rintro e w6 ⟨rfl, hb⟩; have HM6 := Aside0.mk (HM5.out.below hb); have HBR6 := Aside0.mk (blk_below HBR5.out hb); have HK6 := Aside0.mk (keep_of_below g (below_then HB5.out HB5.out.size hb)); have H12b := Aside0.mk (blk_below H12.out hb); have H13b := Aside0.mk (blk_below H13.out hb); (try clear z0 z1 z2); have x0 := (blk_cell HBR6.out 0).trans rfl; have x1 := (blk_cell HBR6.out 1).trans rfl; have x2 := (blk_cell HBR6.out 2).trans rfl; have y0 := (blk_cell H12b.out 0).trans rfl; have y1 := (blk_cell H12b.out 1).trans rfl; have y2 := (blk_cell H12b.out 2).trans rfl; have z0 := (blk_cell H13b.out 0).trans rfl; have z1 := (blk_cell H13b.out 1).trans rfl; have z2 := (blk_cell H13b.out 2).trans rfl; have HS6 : Aside0 (St w0 w6 w6 gm g s N E t t) := ⟨St.start HM6.out⟩; clear hb) | (go_at_call 80; (with_reducible refine (HCA.out _ _ HS6.out.inv HS6.out.mem).mono ?_); rintro e w7ta hp; obtain ⟨rfl, ta, hs2⟩ := HS6.out.step hp; have HS7 := Aside0.mk hs2; (try clear x0 x1 x2 y0 y1 y2 z0 z1 z2); have x0 := hs2.cell ((blk_cell HBR6.out 0).trans rfl) HN12.out.2.2; have x1 := hs2.cell ((blk_cell HBR6.out 1).trans rfl) HN12.out.2.2; have x2 := hs2.cell ((blk_cell HBR6.out 2).trans rfl) HN12.out.2.2; have y0 := hs2.cell ((blk_cell H12b.out 0).trans rfl) HN12.out.1; have y1 := hs2.cell ((blk_cell H12b.out 1).trans rfl) HN12.out.1; have y2 := hs2.cell ((blk_cell H12b.out 2).trans rfl) HN12.out.1; have z0 := hs2.cell ((blk_cell H13b.out 0).trans rfl) HN12.out.2.1; have z1 := hs2.cell ((blk_cell H13b.out 1).trans rfl) HN12.out.2.1; have z2 := hs2.cell ((blk_cell H13b.out 2).trans rfl) HN12.out.2.1; clear hp hs2))
      go_ret
      exact HS7.out.post HK6.out
    · cases rb
      all_goals
        go_wp2_with (first | (go_at_call 79; (with_reducible refine (impl_size.calls kz r.f0 r.f1 A2 c2 r.f2 _ _ ?s1 HA3.out HSZ.out).mono ?_); (case s1 => exact Kd.C_below HA4.out HM5.out.bel); rintro e w6 ⟨rfl, hb⟩; have HM6 := Aside0.mk (HM5.out.below hb); have HBR6 := Aside0.mk (blk_below HBR5.out hb); have HK6 := Aside0.mk (keep_of_below g (below_then HB5.out HB5.out.size hb)); have H12b := Aside0.mk (blk_below H12.out hb); have H13b := Aside0.mk (blk_below H13.out hb); (try clear z0 z1 z2); have x0 := (blk_cell HBR6.out 0).trans rfl; have x1 := (blk_cell HBR6.out 1).trans rfl; have x2 := (blk_cell HBR6.out 2).trans rfl; have y0 := (blk_cell H12b.out 0).trans rfl; have y1 := (blk_cell H12b.out 1).trans rfl; have y2 := (blk_cell H12b.out 2).trans rfl; have z0 := (blk_cell H13b.out 0).trans rfl; have z1 := (blk_cell H13b.out 1).trans rfl; have z2 := (blk_cell H13b.out 2).trans rfl; have HS6 : Aside0 (St w0 w6 w6 gm g s N E t t) := ⟨St.start HM6.out⟩; clear hb) | (go_at_call 80; (with_reducible refine (HCA.out _ _ HS6.out.inv HS6.out.mem).mono ?_); rintro e w7ta hp; obtain ⟨rfl, ta, hs2⟩ := HS6.out.step hp; have HS7 := Aside0.mk hs2; (try clear x0 x1 x2 y0 y1 y2 z0 z1 z2); have x0 := hs2.cell ((blk_cell HBR6.out 0).trans rfl) HN12.out.2.2; have x1 := hs2.cell ((blk_cell HBR6.out 1).trans rfl) HN12.out.2.2; have x2 := hs2.cell ((blk_cell HBR6.out 2).trans rfl) HN12.out.2.2; have y0 := hs2.cell ((blk_cell H12b.out 0).trans rfl) HN12.out.1; have y1 := hs2.cell ((blk_cell H12b.out 1).trans rfl) HN12.out.1; have y2 := hs2.cell ((blk_cell H12b.out 2).trans rfl) HN12.out.1; have z0 := hs2.cell ((blk_cell H13b.out 0).trans rfl) HN12.out.2.1; have z1 := hs2.cell ((blk_cell H13b.out 1).trans rfl) HN12.out.2.1; have z2 := hs2.cell ((blk_cell H13b.out 2).trans rfl) HN12.out.2.1; clear hp hs2) | (go_at_call 80; (with_reducible refine (HCB.out _ _ HS7.out.inv HS7.out.mem).mono ?_); rintro e w7tb hp; obtain ⟨rfl, tb, hs2⟩ := HS7.out.step hp; have HS8 := Aside0.mk hs2; (try clear x0 x1 x2 y0 y1 y2 z0 z1 z2); have x0 := hs2.cell ((blk_cell HBR6.out 0).trans rfl) HN12.out.2.2; have x1 := hs2.cell ((blk_cell HBR6.out 1).trans rfl) HN12.out.2.2; have x2 := hs2.cell ((blk_cell HBR6.out 2).trans rfl) HN12.out.2.2; have y0 := hs2.cell ((blk_cell H12b.out 0).trans rfl) HN12.out.1; have y1 := hs2.cell ((blk_cell H12b.out 1).trans rfl) HN12.out.1; have y2 := hs2.cell ((blk_cell H12b.out 2).trans rfl) HN12.out.1; have z0 := hs2.cell ((blk_cell H13b.out 0).trans rfl) HN12.out.2.1; have z1 := hs2.cell ((blk_cell H13b.out 1).trans rfl) HN12.out.2.1; have z2 := hs2.cell ((blk_cell H13b.out 2).trans rfl) HN12.out.2.1; clear hp hs2))
        go_ret
        exact HS8.out.post HK6.out
end Go.Proofs.Ytldgkgdgcfllmaa.Rg
end
section
namespace Go.Proofs.Ytldgkgdgcfllmaa.Rg
open Go.RowKit Go.Shelf Go.Proofs.Ytldgkgdgcfllmaa.P Go.Proofs.Ytldgkgdgcfllmaa.Pl Go.Proofs.YtldgkgdgcfllmaaW.PrintWords Go.Proofs.YtldgkgdgcfllmaaW.PrintLast Go.Proofs.YtldgkgdgcfllmaaW.PrintMore
set_option linter.unusedVariables false
set_option linter.unusedSimpArgs false
theorem ok_sub {E : Nat → Bool} {t t' : List Int} {N id n i j : Nat} (hok : ∀ c, Reg N id n i j c → Ok E t c) (hi : i ≤ j) (hlt : fl N id i j < t.length) (hinv : ∀ c, t'.getD c 0 = (t.set (fl N id i j) 1).getD c 0 ∨ t'.getD c 0 = bitv (E c))
    {id' n' i' j' : Nat} (h1 : id ≤ id') (h2 : id' + n' ≤ id + n) (h3 : i ≤ i') (h4 : j' ≤ j) (hjN : j < N) (hne : id < id' ∨ i < i') : ∀ c, Reg N id' n' i' j' c → Ok E t' c := by
  rintro c ⟨q, a, b, g1, g2, g3, g4, g5, rfl⟩
  have hn : fl N q a b ≠ fl N id i j := fun e => by
    obtain ⟨e1, e2, _⟩ := fl_inj (by omega) (by omega) (by omega) hjN e
    omega
  rcases hinv (fl N q a b) with e | e
  · unfold Ok
    rw [e, getD_set hlt, if_neg hn]
    exact hok _ ⟨q, a, b, by omega, by omega, by omega, g4, by omega, rfl⟩
  · exact Or.inr e
theorem matchAll (w0 : World) (gm g : Nat) (s : ByteArray) (N T : Nat) (E : Nat → Bool) (hN : N = s.size + 1) (hs : s.size ≤ 900) (hT : T ≤ 900) : ∀ (n : Nat) (x : Rx) (r : Tr) (A : Option Addr) (c id i j : Nat) (W : World) (t : List Int), sz x * N + (j - i) < n → Ax r x → Agr (bytesOf s) N E x id → id + sz x ≤ T → i ≤ j → j ≤ s.size → Kd.C k29 w0 A r.f2.length r.f2 → t.length = T * N * N → Mem w0 W gm g s N t → (∀ c, Reg N id (sz x) i j c → Ok E t c) →
    Calls Try.prog 80 #[.pointer (some ⟨gm, 0, none⟩), .agg #[.int .i64 r.f0, .string r.f1, .slice A r.f2.length c], .int .i64 id, .int .i64 i, .int .i64 j] W (Post w0 gm g s N E t W (mt (bytesOf s) x i j)) := by
  intro n
  induction n with
  | zero => intro x r A c id i j W t h; omega
  | succ n ih =>
    intro x r A c id i j W t hn hax hagr hid hi hj hC ht hm hok
    have hp := sz_pos x
    have hlen : (bytesOf s).length = s.size := len_bytes s
    have hlt : fl N id i j < t.length := by rw [ht]; exact fl_lt (by omega) (by omega) (by omega)
    refine matchStep w0 W gm g s N T E t x r A c id i j hN (by omega) (by omega) (by omega) hi hj ht hm (hagr.own hi (by omega)) (hok _ ⟨id, i, j, by omega, by omega, by omega, hi, by omega, rfl⟩) (fun _ W1 hm1 => ?_)
    have hl1 : (t.set (fl N id i j) 1).length = T * N * N := by rw [List.length_set]; exact ht
    have hmul : ∀ a : Nat, (1 + a) * N = N + a * N := fun a => by rw [Nat.add_mul, Nat.one_mul]
    have kid : ∀ (y : Rx) (ry : Tr) (q : Nat), Ax ry y → Agr (bytesOf s) N E y q → id < q → q + sz y ≤ id + sz x → sz y + 1 ≤ sz x → ∀ A2 c2, Kd.C k29 w0 A2 ry.f2.length ry.f2 → Kid w0 gm g s N E (t.set (fl N id i j) 1) i j y ry A2 c2 ((q : Nat) : Int) := by
      intro y ry q hay hgy hq1 hq2 hsy A2 c2 hC2 i' j' W' t' a1 a2 a3 hinv hmem
      refine ih y ry A2 c2 q i' j' W' t' ?_ hay hgy (by omega) a2 (by omega) hC2 (by rw [hinv.1]; exact hl1) hmem ?_
      · have h1 : (sz y + 1) * N ≤ sz x * N := Nat.mul_le_mul_right N hsy
        rw [Nat.succ_mul] at h1
        omega
      · exact ok_sub hok hi hlt hinv.2 (by omega) hq2 (by omega) (by omega) (by omega) (Or.inl hq1)
    cases hax with
    | none l => exact findLeaf w0 W1 gm g s N E _ .none 1 l A c id i j (Or.inl ⟨rfl, rfl⟩) hi hj (by omega) hm1
    | empty l => exact findLeaf w0 W1 gm g s N E _ .empty 2 l A c id i j (Or.inr (Or.inl ⟨rfl, rfl⟩)) hi hj (by omega) hm1
    | any l => exact findLeaf w0 W1 gm g s N E _ .any 4 l A c id i j (Or.inr (Or.inr ⟨rfl, rfl⟩)) hi hj (by omega) hm1
    | letter l => exact findLetter w0 W1 gm g s N E _ l A c id i j hi hj (by omega) hm1
    | @not l a y ha =>
      simp only [sz] at hid hok hn kid hp
      exact findNot w0 W1 gm g s N E _ y a l A c id i j hi hj (by omega) hC hm1 (fun A2 c2 h => by have := kid y a (id + 1) ha hagr.2 (by omega) (by omega) (by omega) A2 c2 h; rw [Int.natCast_add] at this; exact this)
    | @star l a y ha =>
      simp only [sz] at hid hok hn kid hp
      refine findStar w0 W1 gm g s N E _ y a l A c id i j hi hj (by omega) (by omega) hC hm1 (fun A2 c2 h => by have := kid y a (id + 1) ha hagr.2 (by omega) (by omega) (by omega) A2 c2 h; rw [Int.natCast_add] at this; exact this) (fun k W' t' h1 h2 hinv hmem => ?_)
      exact ih (.star y) ⟨8, l, [a]⟩ A c id k j W' t' (by simp only [sz]; omega) (.star l ha) hagr (by simp only [sz]; omega) h2 hj hC (by rw [hinv.1]; exact hl1) hmem (ok_sub hok hi hlt hinv.2 (by omega) (by simp only [sz]; omega) (by omega) (by omega) (by omega) (Or.inr h1))
    | @cat l a b y z ha hb =>
      simp only [sz] at hid hok hn kid hp
      have hcat := mt_cat (l := bytesOf s) (x := y) (y := z) hi (by omega)
      exact findTwo w0 W1 gm g s N E _ y z a b 5 l A c id i j _ hi hj (by omega) (by omega) (by omega) ha (Or.inl rfl) hC hm1
        (fun _ => ⟨fun k a1 a2 a3 a4 => hcat.mpr ⟨k, a1, a2, a3, a4⟩, fun hh => by rw [← Bool.not_eq_true]; intro ht2; obtain ⟨k, a1, a2, a3, a4⟩ := hcat.mp ht2; exact hh k a1 a2 ⟨a3, a4⟩⟩)
        (fun e => by omega) (fun e => by omega)
        (fun A2 c2 h => by have := kid y a (id + 1) ha hagr.2.1 (by omega) (by omega) (by omega) A2 c2 h; rw [Int.natCast_add] at this; exact this)
        (fun A2 c2 h => by have := kid z b (id + 1 + sz y) hb hagr.2.2 (by omega) (by omega) (by omega) A2 c2 h; rw [Int.natCast_add, Int.natCast_add] at this; exact this)
    | @or l a b y z ha hb =>
      simp only [sz] at hid hok hn kid hp
      exact findTwo w0 W1 gm g s N E _ y z a b 6 l A c id i j _ hi hj (by omega) (by omega) (by omega) ha (Or.inr (Or.inl rfl)) hC hm1
        (fun e => by omega) (fun _ => mt_or _ _ _ _ _) (fun e => by omega)
        (fun A2 c2 h => by have := kid y a (id + 1) ha hagr.2.1 (by omega) (by omega) (by omega) A2 c2 h; rw [Int.natCast_add] at this; exact this)
        (fun A2 c2 h => by have := kid z b (id + 1 + sz y) hb hagr.2.2 (by omega) (by omega) (by omega) A2 c2 h; rw [Int.natCast_add, Int.natCast_add] at this; exact this)
    | @and l a b y z ha hb =>
      simp only [sz] at hid hok hn kid hp
      exact findTwo w0 W1 gm g s N E _ y z a b 7 l A c id i j _ hi hj (by omega) (by omega) (by omega) ha (Or.inr (Or.inr rfl)) hC hm1
        (fun e => by omega) (fun e => by omega) (fun _ => mt_and _ _ _ _ _)
        (fun A2 c2 h => by have := kid y a (id + 1) ha hagr.2.1 (by omega) (by omega) (by omega) A2 c2 h; rw [Int.natCast_add] at this; exact this)
        (fun A2 c2 h => by have := kid z b (id + 1 + sz y) hb hagr.2.2 (by omega) (by omega) (by omega) A2 c2 h; rw [Int.natCast_add, Int.natCast_add] at this; exact this)
def nds : Rx → List Rx
  | .cat x y => .cat x y :: (nds x ++ nds y)
  | .or x y => .or x y :: (nds x ++ nds y)
  | .and x y => .and x y :: (nds x ++ nds y)
  | .star x => .star x :: nds x
  | .not x => .not x :: nds x
  | .none => [.none]
  | .empty => [.empty]
  | .letter c => [.letter c]
  | .any => [.any]
theorem nds_len (x : Rx) : (nds x).length = sz x := by
  induction x with
  | cat x y a b | or x y a b | and x y a b => simp only [nds, sz, List.length_cons, List.length_append, a, b]; omega
  | star x a | not x a => simp only [nds, sz, List.length_cons, a]; omega
  | _ => rfl
def Ed (l : List Int) (N : Nat) (X : Rx) (c : Nat) : Bool := mt l ((nds X).getD (c / N / N) .none) (c / N % N) (c % N)
theorem Ed_fl {l : List Int} {N : Nat} {X : Rx} {id i j : Nat} (hi : i < N) (hj : j < N) : Ed l N X (fl N id i j) = mt l ((nds X).getD id .none) i j := by
  unfold Ed fl
  have hN : 0 < N := by omega
  have h1 : ((id * N + i) * N + j) / N = id * N + i := by rw [Nat.mul_comm, Nat.mul_add_div hN, Nat.div_eq_of_lt hj, Nat.add_zero]
  have h2 : (id * N + i) / N = id := by rw [Nat.mul_comm, Nat.mul_add_div hN, Nat.div_eq_of_lt hi, Nat.add_zero]
  have h3 : ((id * N + i) * N + j) % N = j := by rw [Nat.mul_comm, Nat.mul_add_mod, Nat.mod_eq_of_lt hj]
  have h4 : (id * N + i) % N = i := by rw [Nat.mul_comm, Nat.mul_add_mod, Nat.mod_eq_of_lt hi]
  rw [h1, h2, h3, h4]
theorem agr_of {l : List Int} {N : Nat} {X : Rx} : ∀ (x : Rx) (id : Nat), (∀ k, k < sz x → (nds X)[id + k]? = (nds x)[k]?) → Agr l N (Ed l N X) x id := by
  have own : ∀ (x : Rx) (id : Nat) (r : List Rx), nds x = x :: r → (∀ k, k < sz x → (nds X)[id + k]? = (nds x)[k]?) → ∀ i j, i ≤ j → j < N → Ed l N X (fl N id i j) = mt l x i j := fun x id r hr h i j hi hj => by
    rw [Ed_fl (by omega) hj]
    have := h 0 (sz_pos x)
    rw [hr, Nat.add_zero] at this
    rw [List.getD_eq_getElem?_getD, this]
    rfl
  have left : ∀ (h x y : Rx) (id : Nat), (∀ k, k < 1 + sz x + sz y → (nds X)[id + k]? = (h :: (nds x ++ nds y))[k]?) → (∀ k, k < sz x → (nds X)[id + 1 + k]? = (nds x)[k]?) ∧ (∀ k, k < sz y → (nds X)[id + 1 + sz x + k]? = (nds y)[k]?) := fun h x y id hh => by
    refine ⟨fun k hk => ?_, fun k hk => ?_⟩
    · have := hh (1 + k) (by omega)
      rw [show id + (1 + k) = id + 1 + k by omega, Nat.add_comm 1 k, List.getElem?_cons_succ, List.getElem?_append_left (by rw [nds_len]; exact hk)] at this
      exact this
    · have := hh (1 + sz x + k) (by omega)
      rw [show id + (1 + sz x + k) = id + 1 + sz x + k by omega, show 1 + sz x + k = (sz x + k) + 1 by omega, List.getElem?_cons_succ, List.getElem?_append_right (by rw [nds_len]; omega), nds_len, show sz x + k - sz x = k by omega] at this
      exact this
  intro x
  induction x with
  | cat x y a b => intro id h; have hl := left _ x y id h; exact ⟨own _ id _ rfl h, a _ hl.1, b _ hl.2⟩
  | or x y a b => intro id h; have hl := left _ x y id h; exact ⟨own _ id _ rfl h, a _ hl.1, b _ hl.2⟩
  | and x y a b => intro id h; have hl := left _ x y id h; exact ⟨own _ id _ rfl h, a _ hl.1, b _ hl.2⟩
  | star x a => intro id h; exact ⟨own _ id _ rfl h, a _ (fun k hk => by have := h (1 + k) (by simp only [sz]; omega); rw [show id + (1 + k) = id + 1 + k by omega, Nat.add_comm 1 k] at this; exact this)⟩
  | not x a => intro id h; exact ⟨own _ id _ rfl h, a _ (fun k hk => by have := h (1 + k) (by simp only [sz]; omega); rw [show id + (1 + k) = id + 1 + k by omega, Nat.add_comm 1 k] at this; exact this)⟩
  | none => intro id h; exact own _ id _ rfl h
  | empty => intro id h; exact own _ id _ rfl h
  | letter c => intro id h; exact own _ id _ rfl h
  | any => intro id h; exact own _ id _ rfl h
def Tms2 : Bool × List (List Nat × List Nat) := (true, [([], []), ([], []), ([1], [1]), ([], []), ([3], [3]), ([4], [4]), ([5], [5]), ([2, 6], [2, 6]), ([], []), ([8], [8]), ([9], [9]), ([10], [10]), ([7, 11], [7, 11]), ([12, 12], [12]), ([0, 0, 1, 2, 3, 4, 5, 6, 7, 8, 9, 10, 11, 12, 13], [0]), ([14, 0, 1, 2, 3, 4, 5, 6, 7, 8, 9, 10, 11, 12, 13], [14]), ([15, 13, 2, 0, 1, 2, 3, 4, 5, 6, 7, 8, 9, 10, 11, 12, 13], [13, 15])])
def Bms2 : List Nat := [0, 0, 2, 0, 8, 24, 56, 126, 0, 256, 768, 1792, 4094, 8190, 16383, 32767, 65535]
theorem tabms2 : rtab .any (opsOf Try.f54 2) = Tms2 := by kernel_rfl
theorem bitsms2 : waitsOk Tms2.2 Bms2 = true := by kernel_rfl
theorem made8 (n : Nat) : madeCells (Value.int .i8 0).cells (n * 1) = enc8 (List.replicate n 0) := by
  unfold madeCells enc8
  rw [Nat.mul_one]
  apply Array.toList_inj.mp
  simp only [Array.toList_map, Array.toList_range, List.map_replicate]
  refine List.ext_getElem (by simp) (fun i h1 h2 => ?_)
  simp [Value.cells, Nat.mod_one]
theorem info99 : ∃ i, Try.prog.info? 99 = some i ∧ i.zero = some (.int .i8 0) ∧ i.size = 1 ∧ i.bytes = 1 := by
  have h : (Try.prog.info? 99).map (fun i => (i.zero, i.size, i.bytes)) = some (some (.int .i8 0), 1, 1) := by kernel_rfl
  obtain ⟨i, hi, hz⟩ := Option.map_eq_some_iff.1 h
  simp only [Prod.mk.injEq] at hz
  exact ⟨i, hi, hz.1, hz.2.1, hz.2.2⟩
theorem make8 (W : World) (n : Nat) (hn : n ≤ 281474976710656) : (Instr.makeSlice 87 (.int .i64 (n : Int)) (.int .i64 (n : Int))).run Try.prog W = .ok (.slice (some ⟨W.heap.size, 0, none⟩) n n) (W.alloc (.cells (enc8 (List.replicate n 0)) 99)) := by
  obtain ⟨i, hi, h0, h1, h2⟩ := info99
  have := run_make (P := Try.prog) W 87 99 i (.int .i8 0) Try.underlying87 hi h0 .i64 .i64 (n : Int) (n : Int) (by omega) (Int.le_refl _) (by rw [h2]; omega) (by omega)
  rw [h1, Int.toNat_natCast, made8] at this
  exact this
set_option maxHeartbeats 4000000 in
set_option maxRecDepth 100000 in
theorem matchesCalls (A : Option Addr) (c : Nat) (r : Tr) (x : Rx) (s : ByteArray) (w : World) (hax : Ax r x) (hsz : sz x ≤ 100) (hs : s.size ≤ 100) (hC : Kd.C k29 w A r.f2.length r.f2) (hc : r.f2.length ≤ c) :
    Calls Try.prog 54 #[.agg #[.int .i64 r.f0, .string r.f1, .slice A r.f2.length c], .string s] w fun e w' => e = .returned (.bool (lan x (bytesOf s))) ∧ Below w.heap.size w w' := by
  obtain ⟨kz, hkz⟩ := (size_ev hax (by omega)).rounds
  obtain ⟨N, hN⟩ : ∃ N, N = s.size + 1 := ⟨_, rfl⟩
  have hNi : (s.size : Int) + 1 = (N : Int) := by omega
  have hl : (bytesOf s).length = s.size := len_bytes s
  have hres : mt (bytesOf s) x 0 s.size = lan x (bytesOf s) := by unfold mt sub; rw [← hl, List.take_length, List.drop_zero]
  have HALL := Aside0.mk (fun W2 g hm (ht : (List.replicate (sz x * N * N) (0 : Int)).length = sz x * N * N) => matchAll w (w.heap.size + 1) g s N (sz x) (Ed (bytesOf s) N x) hN (by omega) (by omega) (sz x * N + s.size + 1) x r A c 0 0 s.size W2 (List.replicate (sz x * N * N) 0) (by omega) hax (agr_of x 0 (fun k hk => by rw [Nat.zero_add])) (by omega) (Nat.zero_le _) (Nat.le_refl _) hC ht hm (fun c _ => Or.inl (by rw [List.getD_eq_getElem?_getD]; by_cases h : c < sz x * N * N <;> simp [h])))
  rw [hres, show ((0 : Nat) : Int) = 0 from rfl] at HALL
  generalize lan x (bytesOf s) = res at HALL ⊢
  obtain ⟨p1, hp1⟩ : ∃ p, p = sz x * N := ⟨_, rfl⟩
  obtain ⟨p2, hp2⟩ : ∃ p, p = p1 * N := ⟨_, rfl⟩
  have b1 : p1 ≤ 1000 * 1000 := by rw [hp1]; exact Nat.mul_le_mul (by omega) (by omega)
  have b2 : p2 ≤ 1000 * 1000 * 1000 := by rw [hp2]; exact Nat.mul_le_mul b1 (by omega)
  have m1 : IntKind.i64.wrap ((sz x : Int) * (N : Int)) = (p1 : Int) := by rw [← Int.natCast_mul, ← hp1]; exact wr_ (by omega) (by omega)
  have m2 : IntKind.i64.wrap ((p1 : Int) * (N : Int)) = (p2 : Int) := by rw [← Int.natCast_mul, ← hp2]; exact wr_ (by omega) (by omega)
  have HP : Aside0 (sz x * N * N = p2) := ⟨by rw [hp2, hp1]⟩
  rw [HP.out] at HALL
  have HMK := Aside0.mk (fun W => make8 W p2 (by omega))
  have HSZ := Aside0.mk hkz
  have HC := Aside0.mk hC
  have HCC := Aside0.mk hc
  have hu := Try.underlying29
  have HB := Aside0.mk (below_alloc (below_alloc (Below.refl w.heap.size w) (Obj.cells #[.int .i64 r.f0, .string r.f1, .slice A r.f2.length c] 29)) (Obj.cells #[.string s, .int .i64 (N : Int), .slice none 0 0] 89))
  have HBM : Aside0 (((w.alloc (Obj.cells #[.int .i64 r.f0, .string r.f1, .slice A r.f2.length c] 29)).alloc (Obj.cells #[.string s, .int .i64 (N : Int), .slice none 0 0] 89)).heap[w.heap.size + 1]? = some (.cells #[.string s, .int .i64 (N : Int), .slice none 0 0] 89 (0, 0))) := ⟨by have h_ := blk_new (w.alloc (Obj.cells #[.int .i64 r.f0, .string r.f1, .slice A r.f2.length c] 29)) (Obj.cells #[.string s, .int .i64 (N : Int), .slice none 0 0] 89); simpa using h_⟩
  have HBR : Aside0 (((w.alloc (Obj.cells #[.int .i64 r.f0, .string r.f1, .slice A r.f2.length c] 29)).alloc (Obj.cells #[.string s, .int .i64 (N : Int), .slice none 0 0] 89)).heap[w.heap.size]? = some (.cells #[.int .i64 r.f0, .string r.f1, .slice A r.f2.length c] 29 (0, 0))) := ⟨blk_alloc (blk_new w _) _⟩
  have k0 := (blk_cell HBR.out 0).trans rfl
  have k1 := (blk_cell HBR.out 1).trans rfl
  have k2 := (blk_cell HBR.out 2).trans rfl
  have k3 := (blk_cell HBM.out 1).trans rfl
  clear hkz hC hc hp1 hp2 b1 b2 hax hres hl hN
  go_enter Try.func54, Try.ntmps54
  go_wp2
  have HBX := Aside0.mk (below_drew1 (Below.refl ((w.alloc (Obj.cells #[.int .i64 r.f0, .string r.f1, .slice A r.f2.length c] 29)).alloc (Obj.cells #[.string s, .int .i64 (N : Int), .slice none 0 0] 89)).heap.size ((w.alloc (Obj.cells #[.int .i64 r.f0, .string r.f1, .slice A r.f2.length c] 29)).alloc (Obj.cells #[.string s, .int .i64 (N : Int), .slice none 0 0] 89))))
  have HB1 := Aside0.mk (below_then HB.out HB.out.size HBX.out)
  have HBM1 := Aside0.mk (blk_below HBM.out HBX.out)
  have HBR1 := Aside0.mk (blk_below HBR.out HBX.out)
  refine start_ (n := 17) (S := (fun w' => w'.cell? ⟨w.heap.size, 0, none⟩ = some (.int .i64 r.f0) ∧ w'.cell? ⟨w.heap.size, 1, none⟩ = some (.string r.f1) ∧ w'.cell? ⟨w.heap.size, 2, none⟩ = some (.slice A r.f2.length c) ∧ w'.cell? ⟨w.heap.size + 1, 1, none⟩ = some (.int .i64 (N : Int)))) (ds := [16]) #[false, false, false, false, false, false, false, false, false, false, false, false, false, false, false, false, false] (by kernel_rfl) rfl rfl (⟨k0, k1, k2, k3⟩) (fun hHeld => ?_); refine with_tabW tabms2 bitsms2 (fun HT_ HW_ => ?_)
  clear k0 k1 k2 k3
  generalize World.drew (World.alloc _ _) = Wd at HB1 HBM1 HBR1 hHeld ⊢
  refine pure_ (i := 0) (N := some 12) (v := ?_) (a' := ?_) #[true, false, false, false, false, false, false, false, false, false, false, false, false, false, false, false, false] rfl rfl (any_of HT_.out (by kernel_rfl)) (fun _ _ _ h => h) (Or.inl ⟨by rfl, ?_⟩) ?_ ?_
  rotate_left
  · intro w'
    go_simp
    with_reducible rfl
  rotate_left
  · simp only [Act.put, List.setIfInBounds_toArray, List.set_cons_zero, List.set_cons_succ, i64_w, i32_w]
    rfl
  refine pure_ (i := 3) (N := some 15) (v := ?_) (a' := ?_) #[true, false, false, true, false, false, false, false, false, false, false, false, false, false, false, false, false] rfl rfl (any_of HT_.out (by kernel_rfl)) (fun _ _ _ h => h) (Or.inl ⟨by rfl, ?_⟩) ?_ ?_
  rotate_left
  · intro w'
    go_simp
    with_reducible rfl
  rotate_left
  · simp only [Act.put, List.setIfInBounds_toArray, List.set_cons_zero, List.set_cons_succ, i64_w, i32_w]
    rfl
  refine pure_ (i := 4) (N := some 16) (v := ?_) (a' := ?_) #[true, false, false, true, true, false, false, false, false, false, false, false, false, false, false, false, false] rfl rfl (any_of HT_.out (by kernel_rfl)) (fun _ _ _ h => h) (Or.inl ⟨by rfl, ?_⟩) ?_ ?_
  rotate_left
  · intro w'
    go_simp
    with_reducible rfl
  rotate_left
  · simp only [Act.put, List.setIfInBounds_toArray, List.set_cons_zero, List.set_cons_succ, i64_w, i32_w]
    rfl
  refine pure_ (i := 5) (N := some 17) (v := ?_) (a' := ?_) #[true, false, false, true, true, true, false, false, false, false, false, false, false, false, false, false, false] rfl rfl (any_of HT_.out (by kernel_rfl)) (fun _ _ _ h => h) (Or.inl ⟨by rfl, ?_⟩) ?_ ?_
  rotate_left
  · intro w'
    go_simp
    with_reducible rfl
  rotate_left
  · simp only [Act.put, List.setIfInBounds_toArray, List.set_cons_zero, List.set_cons_succ, i64_w, i32_w]
    rfl
  refine pure_ (i := 8) (N := some 20) (v := ?_) (a' := ?_) #[true, false, false, true, true, true, false, false, true, false, false, false, false, false, false, false, false] rfl rfl (any_of HT_.out (by kernel_rfl)) (fun _ _ _ h => h) (Or.inl ⟨by rfl, ?_⟩) ?_ ?_
  rotate_left
  · intro w'
    go_simp
    with_reducible rfl
  rotate_left
  · simp only [Act.put, List.setIfInBounds_toArray, List.set_cons_zero, List.set_cons_succ, i64_w, i32_w]
    rfl
  refine pure_ (i := 9) (N := some 21) (v := ?_) (a' := ?_) #[true, false, false, true, true, true, false, false, true, true, false, false, false, false, false, false, false] rfl rfl (any_of HT_.out (by kernel_rfl)) (fun _ _ _ h => h) (Or.inl ⟨by rfl, ?_⟩) ?_ ?_
  rotate_left
  · intro w'
    go_simp
    with_reducible rfl
  rotate_left
  · simp only [Act.put, List.setIfInBounds_toArray, List.set_cons_zero, List.set_cons_succ, i64_w, i32_w]
    rfl
  refine pure_ (i := 10) (N := some 22) (v := ?_) (a' := ?_) #[true, false, false, true, true, true, false, false, true, true, true, false, false, false, false, false, false] rfl rfl (any_of HT_.out (by kernel_rfl)) (fun _ _ _ h => h) (Or.inl ⟨by rfl, ?_⟩) ?_ ?_
  rotate_left
  · intro w'
    go_simp
    with_reducible rfl
  rotate_left
  · simp only [Act.put, List.setIfInBounds_toArray, List.set_cons_zero, List.set_cons_succ, i64_w, i32_w]
    rfl
  refine take_ (i := 1) (N := some 13) (v := ?_) (a' := ?_) #[true, true, false, true, true, true, false, false, true, true, true, false, false, false, false, false, false] rfl rfl (take_ofW HT_.out HW_.out (by kernel_rfl)) (fun _ _ _ h => h) (Or.inl ⟨by rfl, ?_⟩) hHeld ?_ ?_
  rotate_left
  · rintro w' ⟨t0, t1, t2, t3⟩
    go_simp
    with_reducible rfl
  rotate_left
  · simp only [Act.put, List.setIfInBounds_toArray, List.set_cons_zero, List.set_cons_succ, i64_w, i32_w]
    rfl
  refine take_ (i := 6) (N := some 18) (v := ?_) (a' := ?_) #[true, true, false, true, true, true, true, false, true, true, true, false, false, false, false, false, false] rfl rfl (take_ofW HT_.out HW_.out (by kernel_rfl)) (fun _ _ _ h => h) (Or.inl ⟨by rfl, ?_⟩) hHeld ?_ ?_
  rotate_left
  · rintro w' ⟨t0, t1, t2, t3⟩
    go_simp
    with_reducible rfl
  rotate_left
  · simp only [Act.put, List.setIfInBounds_toArray, List.set_cons_zero, List.set_cons_succ, i64_w, i32_w]
    rfl
  refine take_ (i := 11) (N := some 23) (v := ?_) (a' := ?_) #[true, true, false, true, true, true, true, false, true, true, true, true, false, false, false, false, false] rfl rfl (take_ofW HT_.out HW_.out (by kernel_rfl)) (fun _ _ _ h => h) (Or.inl ⟨by rfl, ?_⟩) hHeld ?_ ?_
  rotate_left
  · rintro w' ⟨t0, t1, t2, t3⟩
    go_simp
    with_reducible rfl
  rotate_left
  · simp only [Act.put, List.setIfInBounds_toArray, List.set_cons_zero, List.set_cons_succ, i64_w, i32_w]
    rfl
  refine one_ (i := 2) (N := some 14) #[true, true, true, true, true, true, true, false, true, true, true, true, false, false, false, false, false] rfl rfl (one_of HT_.out (by kernel_rfl)) (by decide) (fun K hK => ?_)
  refine goes_ Try.func79 (by kernel_rfl) rfl #[.agg #[.int .i64 r.f0, .string r.f1, .slice A r.f2.length c]] (by rfl) rfl rfl (by (try simp only [List.map_toArray, List.map_cons, List.map_nil]); first | done | rfl) ?_
  with_reducible refine (impl_size.calls kz r.f0 r.f1 A c r.f2 _ _ ?s1 HCC.out HSZ.out).mono ?_
  (case s1 => exact Kd.C_below HC.out HB1.out)
  rintro e w2 ⟨rfl, hb⟩
  refine ⟨_, rfl, ?_⟩
  have HB2 := Aside0.mk (below_then HB1.out HB1.out.size hb)
  have HBM2 := Aside0.mk (blk_below HBM1.out hb)
  have HBR2 := Aside0.mk (blk_below HBR1.out hb)
  clear HB1 HBM1 HBR1
  refine hK.out _ _ (⟨pw_cell_below hb hHeld.1, pw_cell_below hb hHeld.2.1, pw_cell_below hb hHeld.2.2.1, pw_cell_below hb hHeld.2.2.2⟩) (fun hHeld => ?_)
  clear hK K
  refine norm_ (a' := ?_) ?_ ?_
  rotate_left
  · show Act.put _ (some 14) _ = _
    simp only [Act.put, List.setIfInBounds_toArray, List.set_cons_zero, List.set_cons_succ, i64_w, i32_w]
    rfl
  clear hb
  refine pure_ (i := 7) (N := some 19) (v := ?_) (a' := ?_) #[true, true, true, true, true, true, true, true, true, true, true, true, false, false, false, false, false] rfl rfl (any_of HT_.out (by kernel_rfl)) (fun _ _ _ h => h) (Or.inl ⟨by rfl, ?_⟩) ?_ ?_
  rotate_left
  · intro w'
    go_simp
    with_reducible rfl
  rotate_left
  · simp only [Act.put, List.setIfInBounds_toArray, List.set_cons_zero, List.set_cons_succ, i64_w, i32_w]
    rfl
  refine pure_ (i := 12) (N := some 24) (v := ?_) (a' := ?_) #[true, true, true, true, true, true, true, true, true, true, true, true, true, false, false, false, false] rfl rfl (any_of HT_.out (by kernel_rfl)) (fun _ _ _ h => h) (Or.inl ⟨by rfl, ?_⟩) ?_ ?_
  rotate_left
  · intro w'
    go_simp
    with_reducible rfl
  rotate_left
  · simp only [Act.put, List.setIfInBounds_toArray, List.set_cons_zero, List.set_cons_succ, i64_w, i32_w]
    rfl
  have hmk := HMK.out w2
  have hb := below_alloc (Below.refl w2.heap.size w2) (Obj.cells (enc8 (List.replicate p2 0)) 99)
  refine one_ (i := 13) (N := some 25) #[true, true, true, true, true, true, true, true, true, true, true, true, true, true, false, false, false] rfl rfl (one_of HT_.out (by kernel_rfl)) (by decide) (fun K hK => ?_)
  refine value_ (w1 := ?_) (v := ?_) (by rfl) rfl ?_ ?_
  rotate_left 2
  · go_simp
    constructor
    · rfl
    · rfl
  refine hK.out _ _ (⟨pw_cell_below hb hHeld.1, pw_cell_below hb hHeld.2.1, pw_cell_below hb hHeld.2.2.1, pw_cell_below hb hHeld.2.2.2⟩) (fun hHeld => ?_)
  clear hK K
  refine norm_ (a' := ?_) ?_ ?_
  rotate_left
  · show Act.put _ (some 25) _ = _
    simp only [Act.put, List.setIfInBounds_toArray, List.set_cons_zero, List.set_cons_succ, i64_w, i32_w]
    rfl
  clear hmk
  refine pure_ (i := 14) (N := some 26) (v := ?_) (a' := ?_) #[true, true, true, true, true, true, true, true, true, true, true, true, true, true, true, false, false] rfl rfl (any_of HT_.out (by kernel_rfl)) (fun _ _ _ h => h) (Or.inl ⟨by rfl, ?_⟩) ?_ ?_
  rotate_left
  · intro w'
    go_simp
    with_reducible rfl
  rotate_left
  · simp only [Act.put, List.setIfInBounds_toArray, List.set_cons_zero, List.set_cons_succ, i64_w, i32_w]
    rfl
  refine pure_ (i := 15) (N := some 27) (v := ?_) (a' := ?_) #[true, true, true, true, true, true, true, true, true, true, true, true, true, true, true, true, false] rfl rfl (any_of HT_.out (by kernel_rfl)) (fun _ _ _ h => h) (Or.inl ⟨by rfl, ?_⟩) ?_ ?_
  rotate_left
  · intro w'
    go_simp
    with_reducible rfl
  rotate_left
  · simp only [Act.put, List.setIfInBounds_toArray, List.set_cons_zero, List.set_cons_succ, i64_w, i32_w]
    rfl
  have HB3 := Aside0.mk (below_then HB2.out HB2.out.size hb)
  have HBM3 := Aside0.mk (blk_below HBM2.out hb)
  have HBR3 := Aside0.mk (blk_below HBR2.out hb)
  have HRW3 := Aside0.mk (blk_new w2 (Obj.cells (enc8 (List.replicate p2 0)) 99))
  have HG3 : Aside0 (w.heap.size + 1 < w2.heap.size) := ⟨blk_lt HBM2.out⟩
  clear hb
  generalize w2.alloc (Obj.cells (enc8 (List.replicate p2 0)) 99) = w3 at HB3 HBM3 HBR3 HRW3 hHeld ⊢
  have hg2 : w3.cell? ⟨w.heap.size + 1, 2, none⟩ = some (.slice none 0 0) := (blk_cell HBM3.out 2).trans rfl
  have hf2 := blk_frozen HBM3.out 2
  refine last_ (i := 16) (N := none) #[true, true, true, true, true, true, true, true, true, true, true, true, true, true, true, true, true] rfl rfl (one_of HT_.out (by kernel_rfl)) (by decide) (fun K hK => ?_)
  refine skip_ (w1 := ?_) (by rfl) rfl ?_ ?_
  rotate_left
  · go_simp
    rfl
  refine hK.out _ _ ?_
  clear hK K hg2 hf2
  refine done_ (done_of HT_.out (by kernel_rfl)) ?_
  have HBM4 : Aside0 ((w3.setCell ⟨w.heap.size + 1, 2, none⟩ (.slice (some ⟨w2.heap.size, 0, none⟩) p2 p2)).heap[w.heap.size + 1]? = some (.cells #[.string s, .int .i64 (N : Int), .slice (some ⟨w2.heap.size, 0, none⟩) p2 p2] 89 (0, 0))) := ⟨blk_put HBM3.out 2 _ rfl⟩
  have HBR4 := Aside0.mk (blk_far (p := ⟨w.heap.size + 1, 2, none⟩) HBR3.out (by show w.heap.size ≠ w.heap.size + 1; omega) (.slice (some ⟨w2.heap.size, 0, none⟩) p2 p2))
  have HRW4 := Aside0.mk (blk_far (p := ⟨w.heap.size + 1, 2, none⟩) HRW3.out (by have := HG3.out; show w2.heap.size ≠ w.heap.size + 1; omega) (.slice (some ⟨w2.heap.size, 0, none⟩) p2 p2))
  have HB4 := Aside0.mk (below_set (g := w.heap.size + 1) (j := 2) (v := .slice (some ⟨w2.heap.size, 0, none⟩) p2 p2) HB3.out (Nat.le_succ _))
  clear HT_ HW_ hHeld HBM3 HBR3 HRW3 HB3
  generalize w3.setCell ⟨w.heap.size + 1, 2, none⟩ (.slice (some ⟨w2.heap.size, 0, none⟩) p2 p2) = w4 at HBM4 HBR4 HRW4 HB4 ⊢
  have HMM : Aside0 (Mem w w4 (w.heap.size + 1) w2.heap.size s N (List.replicate p2 0)) := ⟨⟨by rw [List.length_replicate]; exact HBM4.out, HRW4.out, HB4.out, by have := HG3.out; omega, by have := HG3.out; omega, by omega⟩⟩
  have k0 := (blk_cell HBR4.out 0).trans rfl
  have k1 := (blk_cell HBR4.out 1).trans rfl
  have k2 := (blk_cell HBR4.out 2).trans rfl
  have HAL := Aside0.mk (HALL.out w4 w2.heap.size HMM.out (by rw [List.length_replicate]))
  go_wp2_with (go_at_call 80; (with_reducible refine HAL.out.mono ?_); rintro e w5 ⟨rfl, t5, _, _, hm5, _⟩; have HB5 := Aside0.mk hm5.bel; clear hm5)
  go_ret
  exact ⟨rfl, HB5.out⟩
end Go.Proofs.Ytldgkgdgcfllmaa.Rg
end
section
namespace Go.Proofs.Ytldgkgdgcfllmaa.P
open Go.RowKit Go.Proofs.YtldgkgdgcfllmaaW.PrintWords Go.Proofs.YtldgkgdgcfllmaaW.PrintLast Go.Proofs.YtldgkgdgcfllmaaW.PrintMore
attribute [local go_sem] max2_int min2_int max_two min_two max_three min_three max_four min_four
set_option linter.unusedVariables false
set_option linter.unusedSimpArgs false
def impl_matches.f (a0_0 : Int) (a0_1 : ByteArray) (l0_2 : List S29) (a1 : ByteArray) : Option Bool := Rg.matchF ⟨a0_0, a0_1, l0_2⟩ a1
theorem impl_matches.calls (a0_0 : Int) (a0_1 : ByteArray) (A0_2 : Option Addr) (c0_2 : Nat) (l0_2 : List S29) (a1 : ByteArray) (r : Bool) (w : World) (hr0_2 : Kd.C k29 w A0_2 l0_2.length l0_2) (hc0_2 : l0_2.length ≤ c0_2) (h : impl_matches.f a0_0 a0_1 l0_2 a1 = some r) :
    Calls Try.prog 54 #[.agg #[.int .i64 a0_0, .string a0_1, .slice A0_2 l0_2.length c0_2], .string a1] w fun e w' => e = .returned (.bool r) ∧ Below w.heap.size w w' := by
  obtain ⟨x, h1, h2, h3, rfl⟩ := Rg.matchF_some h
  exact Rg.matchesCalls A0_2 c0_2 ⟨a0_0, a0_1, l0_2⟩ x a1 w h1 h2 h3 hr0_2 hc0_2
end Go.Proofs.Ytldgkgdgcfllmaa.P
end
