/- A map with integer elements that the call makes, as a function from keys: its laws at the operations. No condition. -/
import Derived.Test.YtoknogcefajfiaaBase
import Derived.Maps.Own
import Derived.Maps.OwnOps
import Derived.Maps.OwnSet
import Derived.Maps.Views
namespace Go.Proofs.Ytoknogcefajfiaa.Mp
open Go.RowKit Go.Maps Go.Proofs.YtoknogcefajfiaaW.PrintWords Go.Proofs.YtoknogcefajfiaaW.PrintLast Go.Proofs.YtoknogcefajfiaaW.PrintMore
set_option linter.unusedVariables false
set_option linter.unusedSimpArgs false

/-- The types of a map, and how its keys lie. -/
structure MapTy (P : Program) (t k e : TypeId) (q : IntKind) {α : Type} (enc : α → Value) (ok : α → Prop) : Prop where
  K : Keyed P k
  ht : P.underlying t = some (.map k e)
  he : P.underlying e = some (.int q)
  hz : ∀ w, (zeroValue e).run P w = .ok (.int q 0) w
  key : ∀ x, ok x → ∃ l, keyOf P k (enc x) = some l
  inj : ∀ x y, enc x = enc y → x = y
/-- Block b is a map of c entries that holds m. -/
def MapIs (P : Program) (k e : TypeId) (q : IntKind) {α : Type} (enc : α → Value) (ok : α → Prop) (w : World) (b : Nat) (m : α → Option Int) (c : Nat) : Prop :=
  ∃ D : DataW Unit, w.ownsMap P k (plainElem P e) b c D ∧ Maps.size D = c ∧ ∀ x l, ok x → keyOf P k (enc x) = some l → Maps.has D l = (m x).isSome ∧ ∀ v, m x = some v → ∀ z, D.atKey l z = .lit (.int q v)
section
variable {P : Program} {t k e : TypeId} {q : IntKind} {α : Type} {enc : α → Value} {ok : α → Prop} {w w' : World} {b c : Nat} {m : α → Option Int}
theorem MapIs.lt (h : MapIs P k e q enc ok w b m c) : b < w.heap.size := by
  obtain ⟨D, ho, _⟩ := h
  exact ho.lt
theorem MapIs.kept {row : Option Nat} (h : MapIs P k e q enc ok w b m c) (hg : w.grownBy w' row) (hne : some b ≠ row) : MapIs P k e q enc ok w' b m c := by
  obtain ⟨D, ho, hs⟩ := h
  exact ⟨D, ho.kept hg hne, hs⟩
theorem grown_below (hb : Below w.heap.size w w') : w.grownBy w' none := ⟨hb.os, hb.tape, hb.output, hb.size, fun i hi _ => hb.block i hi⟩
theorem MapIs.below (h : MapIs P k e q enc ok w b m c) (hb : Below w.heap.size w w') : MapIs P k e q enc ok w' b m c := h.kept (grown_below hb) (by simp)
theorem MapIs.made (w : World) : MapIs P k e q enc ok (w.alloc (.map #[] 0)) w.heap.size (fun _ => none) 0 :=
  ⟨.map [], World.ownsMap_made _ _ _ _, rfl, fun x l _ _ => ⟨rfl, fun v h => by cases h⟩⟩
/-- The block of a map is no row's. -/
theorem MapIs.not_row (h : MapIs P k e q enc ok w b m c) {v : Value} {e' : TypeId} (hty : ∀ g, v.ownBlock = some g → ∃ cells, w.heap[g]? = some (.cells cells e' (0, 0))) : some b ≠ v.ownBlock := by
  intro he
  obtain ⟨D, ⟨es, clock, hb, _⟩, _⟩ := h
  obtain ⟨cells, hc⟩ := hty b he.symm
  rw [hb] at hc
  cases hc
/-- Rows are not turned by a store into a map. -/
theorem R_over_map {β : Type} {d : Kd β} {e' base : Nat} {okk : Nat → Prop} {v : Value} {xs : List β} (h : d.R e' w base okk v xs) (hM : MapIs P k e q enc ok w b m c) (hg : w.grownBy w' (some b)) : d.R e' w' base okk v xs := by
  refine Kd.R_mono (Kd.R_move (Kd.R_bound h) (fun k hk => hg.block k hk.2.2.1 (fun he => ?_))) (fun _ hk => hk.1)
  obtain ⟨_, _, _, q, hq, cells, hc⟩ := hk
  obtain ⟨D, ⟨es, clock, hb, _⟩, _⟩ := hM
  injection he with he
  subst he
  rw [hb] at hc
  cases hc
theorem below_map {w0 : World} (h : Below w0.heap.size w0 w) (hg : w.grownBy w' (some b)) (hb : w0.heap.size ≤ b) : Below w0.heap.size w0 w' := h.grown hg h.size (fun k hk => by injection hk with hk; omega)
theorem put_new (T : MapTy P t k e q enc ok) (x : α) (hx : ok x) {l : Lit} (hl : keyOf P k (enc x) = some l) (v : Int) {D : DataW Unit} (h : w.ownsMap P k (plainElem P e) b c D) (hs : Maps.size D = c)
    (hm : ∀ x l, ok x → keyOf P k (enc x) = some l → Maps.has D l = (m x).isSome ∧ ∀ v, m x = some v → ∀ z, D.atKey l z = .lit (.int q v)) :
    Maps.size (D.put l (.lit (.int q v))) = (if (m x).isSome then c else c + 1) ∧
    ∀ y l', ok y → keyOf P k (enc y) = some l' → Maps.has (D.put l (.lit (.int q v))) l' = (open Classical in if y = x then some v else m y).isSome ∧ ∀ u, (open Classical in if y = x then some v else m y) = some u → ∀ z, (D.put l (.lit (.int q v))).atKey l' z = .lit (.int q u) := by
  refine ⟨?_, fun y l' hy hl' => ?_⟩
  · rw [size_put (h.tidy T.K), hs, (hm x l hx hl).1]
  · by_cases hyx : y = x
    · subst hyx
      obtain rfl : l' = l := Option.some.inj (hl'.symm.trans hl)
      rw [if_pos rfl]
      refine ⟨has_put_same h.isMap (T.K.key hl) _, fun u hu z => ?_⟩
      obtain rfl := Option.some.inj hu
      exact atKey_put_same h.isMap (T.K.key hl) _ _
    · rw [if_neg hyx]
      have hne : l' ≠ l := fun e1 => hyx (T.inj _ _ (T.K.inj (hl'.trans (congrArg some e1)) hl))
      refine ⟨(has_put_other hne _).trans (hm y l' hy hl').1, fun u hu z => ?_⟩
      rw [atKey_put_other hne]
      exact (hm y l' hy hl').2 u hu z
open Classical in
/-- What a store leaves. -/
noncomputable def upd (m : α → Option Int) (x : α) (v : Int) : α → Option Int := fun y => if y = x then some v else m y
theorem MapIs.run (T : MapTy P t k e q enc ok) (h : MapIs P k e q enc ok w b m c) (hn : c < maxLen) (x : α) (hx : ok x) (v : Int) (hv : (Lit.int q v).wf = true) :
    ∃ w', (Instr.mapUpdate t (.map (some b)) (enc x) (.int q v)).run P w = .ok () w' ∧ MapIs P k e q enc ok w' b (upd m x v) (if (m x).isSome then c else c + 1) ∧ w.grownBy w' (some b) := by
  obtain ⟨l, hl⟩ := T.key x hx
  obtain ⟨D, ho, hs, hm⟩ := h
  obtain ⟨w', hrun, ho', hg⟩ := ho.update T.K T.ht hn hl (plainElem_int T.he hv)
  obtain ⟨h1, h2⟩ := put_new T x hx hl v ho hs hm
  refine ⟨w', hrun, ⟨_, ?_, h1, h2⟩, hg⟩
  obtain ⟨es, clock, hb, F, hsz, hD⟩ := ho'
  refine ⟨es, clock, hb, F, ?_, hD⟩
  rw [← h1, hD, size_eq, length_sorted]
  simp
variable {ops : Array Oper} {rest : List Oper} {o : Oper} {a : Act} {Q : Exit → Act → World → Prop}
theorem wp_update (T : MapTy P t k e q enc ok) (hg : o.guard = none) (mm xx vv : Operand) (hop : o.op = Op.mapUpdate t mm xx vv) (b c : Nat) (m : α → Option Int) (h : MapIs P k e q enc ok w b m c) (hn : c < maxLen)
    (hm : a.eval mm = .map (some b)) (x : α) (hx : a.eval xx = enc x) (hk : ok x) (v : Int) (hv : a.eval vv = .int q v) (hw : (Lit.int q v).wf = true)
    (hK : ∀ w', MapIs P k e q enc ok w' b (upd m x v) (if (m x).isSome then c else c + 1) → w.grownBy w' (some b) → wpList P ops Q rest (a.put o.dst undef) w') :
    wpList P ops Q (o :: rest) a w := by
  refine wpList_plain hg fun K' hK' => ?_
  obtain ⟨w', hrun, r1, r2⟩ := h.run T hn x hk v hw
  unfold Oper.wp
  simp [execOp, hop, hm, hx, hv, hrun, Result.andThen]
  exact hK' _ _ (hK w' r1 r2)
theorem wp_insert (T : MapTy P t k e q enc ok) (hg : o.guard = none) (mm xx vv : Operand) (hop : o.op = Op.insert t mm xx vv) (b c : Nat) (m : α → Option Int) (h : MapIs P k e q enc ok w b m c) (hn : c < maxLen)
    (hm : a.eval mm = .map (some b)) (x : α) (hx : a.eval xx = enc x) (hk : ok x) (v : Int) (hv : a.eval vv = .int q v) (hw : (Lit.int q v).wf = true)
    (hK : ∀ w', MapIs P k e q enc ok w' b (upd m x v) (if (m x).isSome then c else c + 1) → w.grownBy w' (some b) → wpList P ops Q rest (a.put o.dst undef) w') :
    wpList P ops Q (o :: rest) a w := by
  refine wpList_plain hg fun K' hK' => ?_
  obtain ⟨w', hrun, r1, r2⟩ := h.run T hn x hk v hw
  unfold Oper.wp
  simp [execOp, hop, hm, hx, hv, hrun, Result.andThen]
  exact hK' _ _ (hK w' r1 r2)
theorem wp_make (hg : o.guard = none) (hop : o.op = Op.makeMap t none)
    (hK : ∀ w', MapIs P k e q enc ok w' w.heap.size (fun _ => none) 0 → Below w.heap.size w w' → wpList P ops Q rest (a.put o.dst (.map (some w.heap.size))) w') :
    wpList P ops Q (o :: rest) a w := by
  refine wpList_plain hg fun K' hK' => ?_
  unfold Oper.wp
  simp [execOp, hop, run_makeMap, Result.andThen]
  exact hK' _ _ (hK _ (MapIs.made w) ((Below.refl _ _).alloc (Nat.le_refl _) _))
theorem wp_look_ok (T : MapTy P t k e q enc ok) (hg : o.guard = none) (mm xx : Operand) (hop : o.op = Op.lookup t mm xx true) (b c : Nat) (m : α → Option Int) (h : MapIs P k e q enc ok w b m c)
    (hm : a.eval mm = .map (some b)) (x : α) (hx : a.eval xx = enc x) (hk : ok x)
    (hK : wpList P ops Q rest (a.put o.dst (.tuple #[.int q ((m x).getD 0), .bool (m x).isSome])) w) : wpList P ops Q (o :: rest) a w := by
  obtain ⟨l, hl⟩ := T.key x hk
  obtain ⟨D, ho, hs, hD⟩ := h
  refine wpList_lookup_own_ok_int w hg mm xx t hop k e q T.K T.ht T.he (T.hz w) b c D hm ho _ l hx hl (fun v hat hw => ?_)
  obtain ⟨h1, h2⟩ := hD x l hk hl
  rw [h1]
  cases hmx : m x with
  | none =>
    rw [hmx] at h1
    rw [atKey_of_not_has h1] at hat
    injection hat with hat
    injection hat with _ hat
    subst hat
    rw [hmx] at hK
    exact hK
  | some u =>
    rw [h2 u hmx] at hat
    injection hat with hat
    injection hat with _ hat
    subst hat
    rw [hmx] at hK
    exact hK
theorem wp_look (T : MapTy P t k e q enc ok) (hg : o.guard = none) (mm xx : Operand) (hop : o.op = Op.lookup t mm xx false) (b c : Nat) (m : α → Option Int) (h : MapIs P k e q enc ok w b m c)
    (hm : a.eval mm = .map (some b)) (x : α) (hx : a.eval xx = enc x) (hk : ok x)
    (hK : wpList P ops Q rest (a.put o.dst (.int q ((m x).getD 0))) w) : wpList P ops Q (o :: rest) a w := by
  obtain ⟨l, hl⟩ := T.key x hk
  obtain ⟨D, ho, hs, hD⟩ := h
  refine wpList_lookup_own_int w hg mm xx t hop k e q T.K T.ht T.he (T.hz w) b c D hm ho _ l hx hl (fun v hat hw => ?_)
  obtain ⟨h1, h2⟩ := hD x l hk hl
  cases hmx : m x with
  | none =>
    rw [hmx] at h1
    rw [atKey_of_not_has h1] at hat
    injection hat with hat
    injection hat with _ hat
    subst hat
    rw [hmx] at hK
    exact hK
  | some u =>
    rw [h2 u hmx] at hat
    injection hat with hat
    injection hat with _ hat
    subst hat
    rw [hmx] at hK
    exact hK
theorem wp_len (T : MapTy P t k e q enc ok) (hg : o.guard = none) (mm : Operand) (hop : o.op = Op.call { callee := Callee.builtin Builtin.len, args := #[mm], argTypes := #[t] }) (b c : Nat) (m : α → Option Int) (h : MapIs P k e q enc ok w b m c)
    (hm : a.eval mm = .map (some b)) (hK : wpList P ops Q rest (a.put o.dst (.int .i64 c)) w) : wpList P ops Q (o :: rest) a w := by
  obtain ⟨D, ho, hs, hD⟩ := h
  refine wpList_len_own w hg mm t hop k e T.ht _ b c D hm ho ?_
  rw [hs]
  exact hK
end
/-- A row in a block that is just laid. -/
theorem R_here {β : Type} (d : Kd β) (W : World) (base e : Nat) {xs : List β} {inner : List Value} {okp : Nat → Prop} (hrep : Reps (d.M W base okp) d.sz xs inner) (hbase : base ≤ W.heap.size) (hm : xs.length ≤ 9223372036854775807) :
    d.R e (W.alloc (.cells inner.toArray e)) base (fun _ => True) (.slice (some ⟨W.heap.size, 0, none⟩) xs.length xs.length) xs := by
  refine ⟨fun k hk => trivial, inner, ?_, ?_⟩
  · have h2 := World.ownsRow_lit (base := base) (e := e) (size := d.sz) W inner.toArray xs.length hbase (by simpa [maxLen] using hm) (by simpa using hrep.1)
    simpa using h2
  · refine hrep.imp_ (fun p c hp => d.M_mono (fun k hk => ⟨trivial, fun he => ?_⟩) (Kd.M_below (d.M_bound hp) (below_alloc (Below.refl _ _) _)))
    have h3 : k = W.heap.size := by simpa [Value.ownBlock] using he
    have := hk.2.2.1
    omega
theorem int_ty (P : Program) {t k e : TypeId} {q q' : IntKind} (ht : P.underlying t = some (.map k e)) (hk : P.underlying k = some (.int q')) (he : P.underlying e = some (.int q)) (hz : ∀ w, (zeroValue e).run P w = .ok (.int q 0) w) :
    MapTy P t k e q (Value.int q') (fun x => (Lit.int q' x).wf = true) :=
  ⟨int_keyed hk, ht, he, hz, fun x hx => ⟨_, keyOf_int_mk hk hx⟩, fun x y h => by injection h⟩

end Go.Proofs.Ytoknogcefajfiaa.Mp
