/-
  No cell of these rows narrows 'for every input' (looked for: loops, veiled, ifaces, maps, wideKeys, modest, calm, conditions, laid).
  DERIVED. THE GIVEN ROWS OF THIS SEAT. 9 by the template 'for every input the law returns true; each argument reads behind the call as it read before'; 0 by the template 'total and deterministic' (their statements: YtogamkblkoobkaaTotals.lean).
  GIVEN WITH THE SEED: the statements are not yours to turn. If you find one false, say at which input.
  Laid BY PROGRAM, IN A SANDBOX (cutbox-rows.mjs): the forced cells as the released guide's own fill.sh prints them over the translation 248b110ed3815097… (all of the seat's roots in one cut). By AI agents, Wed Nov 11 2026. No macro, syntax, notation, axiom, sorry.
-/
import Derived.Test.YtogamkblkoobkaaChecked
import GoSem.Claim
import GoSem.ClaimJoined
import GoSem.ClaimMapViews
import Derived.JoinedTies
import Derived.KernelRfl
namespace Go.Proofs.Ytogamkblkoobkaa
/- THE CELL 'sum', in the pinned program and in every row, IS THE sha256 OF THE DUMP (.gsa) THAT YtogamkblkoobkaaProg.lean LOADS. Nothing in Lean hashes anything: it is a label: what it is worth is what the hold of that sum in a sandbox is worth. -/
noncomputable def Try.pinned : Pinned := { name := "ytogamkblkoobkaa", sum := "248b110ed38150974ae30aefd2084349916b0cc70e426c8ef122fb8259fb726b", checked := Try.checked }
namespace Rows
def none {H : Type} : Left H := { results := [], args := [] }

/-- 'laws.FnExactComplementDfa': WHATEVER THE INPUT: true; the input reads as it did. -/
def fnExactComplementDfaSpec : ChangeSpec := { name := "fnExactComplementDfa", fn := fun _ => fun
  | [d] => { results := [.lit (.bool true)], args := [d] }
  | _ => none }
def fnExactComplementDfaRow : OpenClaim := { program := "ytogamkblkoobkaa", sum := "248b110ed38150974ae30aefd2084349916b0cc70e426c8ef122fb8259fb726b", func := "loop.example/g00582/laws.FnExactComplementDfa", spec := "fnExactComplementDfa", unfollowed := true, recurses := true, plainKeys := false, apart := false }
def FnExactComplementDfaSaid : Prop := fnExactComplementDfaRow.holds Try.pinned (OpenSpec.ofChange fnExactComplementDfaSpec)

/-- ITS FALSE NEIGHBOUR: 'it returns false'. Refute it at one input. -/
def fnExactComplementDfaWrong : ChangeSpec := { name := "fnExactComplementDfa", fn := fun _ => fun
  | [d] => { results := [.lit (.bool false)], args := [d] }
  | _ => none }
def FnExactComplementDfaWrongFalsely : Prop := fnExactComplementDfaRow.holds Try.pinned (OpenSpec.ofChange fnExactComplementDfaWrong)

/-- 'laws.FnExactProductDfa': WHATEVER THE INPUT: true; the input reads as it did. -/
def fnExactProductDfaSpec : ChangeSpec := { name := "fnExactProductDfa", fn := fun _ => fun
  | [d1, d2, d3] => { results := [.lit (.bool true)], args := [d1, d2, d3] }
  | _ => none }
def fnExactProductDfaRow : OpenClaim := { program := "ytogamkblkoobkaa", sum := "248b110ed38150974ae30aefd2084349916b0cc70e426c8ef122fb8259fb726b", func := "loop.example/g00582/laws.FnExactProductDfa", spec := "fnExactProductDfa", unfollowed := true, recurses := true, plainKeys := false, apart := false }
def FnExactProductDfaSaid : Prop := fnExactProductDfaRow.holds Try.pinned (OpenSpec.ofChange fnExactProductDfaSpec)

/-- ITS FALSE NEIGHBOUR: 'it returns false'. Refute it at one input. -/
def fnExactProductDfaWrong : ChangeSpec := { name := "fnExactProductDfa", fn := fun _ => fun
  | [d1, d2, d3] => { results := [.lit (.bool false)], args := [d1, d2, d3] }
  | _ => none }
def FnExactProductDfaWrongFalsely : Prop := fnExactProductDfaRow.holds Try.pinned (OpenSpec.ofChange fnExactProductDfaWrong)

/-- 'laws.FnExactWordDfa': WHATEVER THE INPUT: true; the input reads as it did. -/
def fnExactWordDfaSpec : ChangeSpec := { name := "fnExactWordDfa", fn := fun _ => fun
  | [d] => { results := [.lit (.bool true)], args := [d] }
  | _ => none }
def fnExactWordDfaRow : OpenClaim := { program := "ytogamkblkoobkaa", sum := "248b110ed38150974ae30aefd2084349916b0cc70e426c8ef122fb8259fb726b", func := "loop.example/g00582/laws.FnExactWordDfa", spec := "fnExactWordDfa", inPlace := ["internal/bytealg.IndexByteString"], plainKeys := false, apart := false }
def FnExactWordDfaSaid : Prop := fnExactWordDfaRow.holds Try.pinned (OpenSpec.ofChange fnExactWordDfaSpec)

/-- ITS FALSE NEIGHBOUR: 'it returns false'. Refute it at one input. -/
def fnExactWordDfaWrong : ChangeSpec := { name := "fnExactWordDfa", fn := fun _ => fun
  | [d] => { results := [.lit (.bool false)], args := [d] }
  | _ => none }
def FnExactWordDfaWrongFalsely : Prop := fnExactWordDfaRow.holds Try.pinned (OpenSpec.ofChange fnExactWordDfaWrong)

/-- 'laws.FnExactConcatDfa': WHATEVER THE INPUT: true; the input reads as it did. -/
def fnExactConcatDfaSpec : ChangeSpec := { name := "fnExactConcatDfa", fn := fun _ => fun
  | [d1, d2] => { results := [.lit (.bool true)], args := [d1, d2] }
  | _ => none }
def fnExactConcatDfaRow : OpenClaim := { program := "ytogamkblkoobkaa", sum := "248b110ed38150974ae30aefd2084349916b0cc70e426c8ef122fb8259fb726b", func := "loop.example/g00582/laws.FnExactConcatDfa", spec := "fnExactConcatDfa", unfollowed := true, recurses := true, plainKeys := false, apart := false }
def FnExactConcatDfaSaid : Prop := fnExactConcatDfaRow.holds Try.pinned (OpenSpec.ofChange fnExactConcatDfaSpec)

/-- ITS FALSE NEIGHBOUR: 'it returns false'. Refute it at one input. -/
def fnExactConcatDfaWrong : ChangeSpec := { name := "fnExactConcatDfa", fn := fun _ => fun
  | [d1, d2] => { results := [.lit (.bool false)], args := [d1, d2] }
  | _ => none }
def FnExactConcatDfaWrongFalsely : Prop := fnExactConcatDfaRow.holds Try.pinned (OpenSpec.ofChange fnExactConcatDfaWrong)

/-- 'laws.FnExactStarDfa': WHATEVER THE INPUT: true; the input reads as it did. -/
def fnExactStarDfaSpec : ChangeSpec := { name := "fnExactStarDfa", fn := fun _ => fun
  | [d] => { results := [.lit (.bool true)], args := [d] }
  | _ => none }
def fnExactStarDfaRow : OpenClaim := { program := "ytogamkblkoobkaa", sum := "248b110ed38150974ae30aefd2084349916b0cc70e426c8ef122fb8259fb726b", func := "loop.example/g00582/laws.FnExactStarDfa", spec := "fnExactStarDfa", unfollowed := true, recurses := true, plainKeys := false, apart := false }
def FnExactStarDfaSaid : Prop := fnExactStarDfaRow.holds Try.pinned (OpenSpec.ofChange fnExactStarDfaSpec)

/-- ITS FALSE NEIGHBOUR: 'it returns false'. Refute it at one input. -/
def fnExactStarDfaWrong : ChangeSpec := { name := "fnExactStarDfa", fn := fun _ => fun
  | [d] => { results := [.lit (.bool false)], args := [d] }
  | _ => none }
def FnExactStarDfaWrongFalsely : Prop := fnExactStarDfaRow.holds Try.pinned (OpenSpec.ofChange fnExactStarDfaWrong)

/-- 'laws.FnMinimal': WHATEVER THE INPUT: true; the input reads as it did. -/
def fnMinimalSpec : ChangeSpec := { name := "fnMinimal", fn := fun _ => fun
  | [d] => { results := [.lit (.bool true)], args := [d] }
  | _ => none }
def fnMinimalRow : OpenClaim := { program := "ytogamkblkoobkaa", sum := "248b110ed38150974ae30aefd2084349916b0cc70e426c8ef122fb8259fb726b", func := "loop.example/g00582/laws.FnMinimal", spec := "fnMinimal", inPlace := ["internal/bytealg.IndexByteString"], unfollowed := true, recurses := true, plainKeys := false, apart := false }
def FnMinimalSaid : Prop := fnMinimalRow.holds Try.pinned (OpenSpec.ofChange fnMinimalSpec)

/-- ITS FALSE NEIGHBOUR: 'it returns false'. Refute it at one input. -/
def fnMinimalWrong : ChangeSpec := { name := "fnMinimal", fn := fun _ => fun
  | [d] => { results := [.lit (.bool false)], args := [d] }
  | _ => none }
def FnMinimalWrongFalsely : Prop := fnMinimalRow.holds Try.pinned (OpenSpec.ofChange fnMinimalWrong)

/-- 'laws.FnBoolean': WHATEVER THE INPUT: true; the input reads as it did. -/
def fnBooleanSpec : ChangeSpec := { name := "fnBoolean", fn := fun _ => fun
  | [d] => { results := [.lit (.bool true)], args := [d] }
  | _ => none }
def fnBooleanRow : OpenClaim := { program := "ytogamkblkoobkaa", sum := "248b110ed38150974ae30aefd2084349916b0cc70e426c8ef122fb8259fb726b", func := "loop.example/g00582/laws.FnBoolean", spec := "fnBoolean", inPlace := ["internal/bytealg.IndexByteString"], unfollowed := true, recurses := true, plainKeys := false, apart := false }
def FnBooleanSaid : Prop := fnBooleanRow.holds Try.pinned (OpenSpec.ofChange fnBooleanSpec)

/-- ITS FALSE NEIGHBOUR: 'it returns false'. Refute it at one input. -/
def fnBooleanWrong : ChangeSpec := { name := "fnBoolean", fn := fun _ => fun
  | [d] => { results := [.lit (.bool false)], args := [d] }
  | _ => none }
def FnBooleanWrongFalsely : Prop := fnBooleanRow.holds Try.pinned (OpenSpec.ofChange fnBooleanWrong)

/-- 'laws.FnDivided': WHATEVER THE INPUT: true; the input reads as it did. -/
def fnDividedSpec : ChangeSpec := { name := "fnDivided", fn := fun _ => fun
  | [d] => { results := [.lit (.bool true)], args := [d] }
  | _ => none }
def fnDividedRow : OpenClaim := { program := "ytogamkblkoobkaa", sum := "248b110ed38150974ae30aefd2084349916b0cc70e426c8ef122fb8259fb726b", func := "loop.example/g00582/laws.FnDivided", spec := "fnDivided", inPlace := ["internal/bytealg.IndexByteString"], unfollowed := true, recurses := true, plainKeys := false, apart := false }
def FnDividedSaid : Prop := fnDividedRow.holds Try.pinned (OpenSpec.ofChange fnDividedSpec)

/-- ITS FALSE NEIGHBOUR: 'it returns false'. Refute it at one input. -/
def fnDividedWrong : ChangeSpec := { name := "fnDivided", fn := fun _ => fun
  | [d] => { results := [.lit (.bool false)], args := [d] }
  | _ => none }
def FnDividedWrongFalsely : Prop := fnDividedRow.holds Try.pinned (OpenSpec.ofChange fnDividedWrong)

/-- 'laws.FnShortest': WHATEVER THE INPUT: true; the input reads as it did. -/
def fnShortestSpec : ChangeSpec := { name := "fnShortest", fn := fun _ => fun
  | [d] => { results := [.lit (.bool true)], args := [d] }
  | _ => none }
def fnShortestRow : OpenClaim := { program := "ytogamkblkoobkaa", sum := "248b110ed38150974ae30aefd2084349916b0cc70e426c8ef122fb8259fb726b", func := "loop.example/g00582/laws.FnShortest", spec := "fnShortest", inPlace := ["internal/bytealg.IndexByteString"], unfollowed := true, recurses := true, plainKeys := false, apart := false }
def FnShortestSaid : Prop := fnShortestRow.holds Try.pinned (OpenSpec.ofChange fnShortestSpec)

/-- ITS FALSE NEIGHBOUR: 'it returns false'. Refute it at one input. -/
def fnShortestWrong : ChangeSpec := { name := "fnShortest", fn := fun _ => fun
  | [d] => { results := [.lit (.bool false)], args := [d] }
  | _ => none }
def FnShortestWrongFalsely : Prop := fnShortestRow.holds Try.pinned (OpenSpec.ofChange fnShortestWrong)

/- THE SECOND FORM. 'bulk': how many values and letters a reading holds, each counted each time it is reached (what is shared counts as often as it is met; a slice's spare places count too). A statement '..UptoSaid' is the law's where the arguments, and the package variables that the reading takes, are together of bulk at most 1048576: NARROWER than '..Said'. Prove '..Said' where nothing that the law and all that it calls make is longer than what came in: it says more and counts as full. Else prove '..UptoSaid'. A law counts once. -/
mutual
def uptoBulk {H : Type} : DataW H → Nat
  | .lit (.string bytes) => bytes.length + 1
  | .lit _ => 1
  | .nil => 1
  | .ptr d => uptoBulk d + 1
  | .slice elems spare => uptoBulkAll elems + uptoBulkAll spare + 1
  | .agg parts => uptoBulkAll parts + 1
  | .iface _ d => uptoBulk d + 1
  | .map entries => uptoBulkEntries entries + 1
  | .held _ => 1
def uptoBulkAll {H : Type} : List (DataW H) → Nat
  | [] => 0
  | d :: r => uptoBulk d + uptoBulkAll r
def uptoBulkEntries {H : Type} : List (Lit × DataW H) → Nat
  | [] => 0
  | x :: r => uptoBulkEntry x + uptoBulkEntries r
def uptoBulkEntry {H : Type} : Lit × DataW H → Nat
  | (.string bytes, d) => bytes.length + uptoBulk d + 1
  | (_, d) => uptoBulk d + 1
 end
def uptoSmall : (H : Type) → List (DataW H) → Bool := fun _ ds => decide (uptoBulkAll ds ≤ 1048576)
def OpenSpec.upto (s : _root_.Go.ChangeSpec) : _root_.Go.OpenSpec := { _root_.Go.OpenSpec.ofChange s with cond := some uptoSmall }

/-- 'laws.FnExactComplementDfa', WHERE WHAT IT READS IS OF BULK AT MOST 1048576: true; the input reads as it did. -/
def fnExactComplementDfaUptoRow : OpenClaim := { program := "ytogamkblkoobkaa", sum := "248b110ed38150974ae30aefd2084349916b0cc70e426c8ef122fb8259fb726b", func := "loop.example/g00582/laws.FnExactComplementDfa", spec := "fnExactComplementDfa", unfollowed := true, recurses := true, plainKeys := false, apart := false, narrowed := true }
def FnExactComplementDfaUptoSaid : Prop := fnExactComplementDfaUptoRow.holds Try.pinned (OpenSpec.upto fnExactComplementDfaSpec)

/-- 'laws.FnExactProductDfa', WHERE WHAT IT READS IS OF BULK AT MOST 1048576: true; the input reads as it did. -/
def fnExactProductDfaUptoRow : OpenClaim := { program := "ytogamkblkoobkaa", sum := "248b110ed38150974ae30aefd2084349916b0cc70e426c8ef122fb8259fb726b", func := "loop.example/g00582/laws.FnExactProductDfa", spec := "fnExactProductDfa", unfollowed := true, recurses := true, plainKeys := false, apart := false, narrowed := true }
def FnExactProductDfaUptoSaid : Prop := fnExactProductDfaUptoRow.holds Try.pinned (OpenSpec.upto fnExactProductDfaSpec)

/-- 'laws.FnExactWordDfa', WHERE WHAT IT READS IS OF BULK AT MOST 1048576: true; the input reads as it did. -/
def fnExactWordDfaUptoRow : OpenClaim := { program := "ytogamkblkoobkaa", sum := "248b110ed38150974ae30aefd2084349916b0cc70e426c8ef122fb8259fb726b", func := "loop.example/g00582/laws.FnExactWordDfa", spec := "fnExactWordDfa", inPlace := ["internal/bytealg.IndexByteString"], plainKeys := false, apart := false, narrowed := true }
def FnExactWordDfaUptoSaid : Prop := fnExactWordDfaUptoRow.holds Try.pinned (OpenSpec.upto fnExactWordDfaSpec)

/-- 'laws.FnExactConcatDfa', WHERE WHAT IT READS IS OF BULK AT MOST 1048576: true; the input reads as it did. -/
def fnExactConcatDfaUptoRow : OpenClaim := { program := "ytogamkblkoobkaa", sum := "248b110ed38150974ae30aefd2084349916b0cc70e426c8ef122fb8259fb726b", func := "loop.example/g00582/laws.FnExactConcatDfa", spec := "fnExactConcatDfa", unfollowed := true, recurses := true, plainKeys := false, apart := false, narrowed := true }
def FnExactConcatDfaUptoSaid : Prop := fnExactConcatDfaUptoRow.holds Try.pinned (OpenSpec.upto fnExactConcatDfaSpec)

/-- 'laws.FnExactStarDfa', WHERE WHAT IT READS IS OF BULK AT MOST 1048576: true; the input reads as it did. -/
def fnExactStarDfaUptoRow : OpenClaim := { program := "ytogamkblkoobkaa", sum := "248b110ed38150974ae30aefd2084349916b0cc70e426c8ef122fb8259fb726b", func := "loop.example/g00582/laws.FnExactStarDfa", spec := "fnExactStarDfa", unfollowed := true, recurses := true, plainKeys := false, apart := false, narrowed := true }
def FnExactStarDfaUptoSaid : Prop := fnExactStarDfaUptoRow.holds Try.pinned (OpenSpec.upto fnExactStarDfaSpec)

/-- 'laws.FnMinimal', WHERE WHAT IT READS IS OF BULK AT MOST 1048576: true; the input reads as it did. -/
def fnMinimalUptoRow : OpenClaim := { program := "ytogamkblkoobkaa", sum := "248b110ed38150974ae30aefd2084349916b0cc70e426c8ef122fb8259fb726b", func := "loop.example/g00582/laws.FnMinimal", spec := "fnMinimal", inPlace := ["internal/bytealg.IndexByteString"], unfollowed := true, recurses := true, plainKeys := false, apart := false, narrowed := true }
def FnMinimalUptoSaid : Prop := fnMinimalUptoRow.holds Try.pinned (OpenSpec.upto fnMinimalSpec)

/-- 'laws.FnBoolean', WHERE WHAT IT READS IS OF BULK AT MOST 1048576: true; the input reads as it did. -/
def fnBooleanUptoRow : OpenClaim := { program := "ytogamkblkoobkaa", sum := "248b110ed38150974ae30aefd2084349916b0cc70e426c8ef122fb8259fb726b", func := "loop.example/g00582/laws.FnBoolean", spec := "fnBoolean", inPlace := ["internal/bytealg.IndexByteString"], unfollowed := true, recurses := true, plainKeys := false, apart := false, narrowed := true }
def FnBooleanUptoSaid : Prop := fnBooleanUptoRow.holds Try.pinned (OpenSpec.upto fnBooleanSpec)

/-- 'laws.FnDivided', WHERE WHAT IT READS IS OF BULK AT MOST 1048576: true; the input reads as it did. -/
def fnDividedUptoRow : OpenClaim := { program := "ytogamkblkoobkaa", sum := "248b110ed38150974ae30aefd2084349916b0cc70e426c8ef122fb8259fb726b", func := "loop.example/g00582/laws.FnDivided", spec := "fnDivided", inPlace := ["internal/bytealg.IndexByteString"], unfollowed := true, recurses := true, plainKeys := false, apart := false, narrowed := true }
def FnDividedUptoSaid : Prop := fnDividedUptoRow.holds Try.pinned (OpenSpec.upto fnDividedSpec)

/-- 'laws.FnShortest', WHERE WHAT IT READS IS OF BULK AT MOST 1048576: true; the input reads as it did. -/
def fnShortestUptoRow : OpenClaim := { program := "ytogamkblkoobkaa", sum := "248b110ed38150974ae30aefd2084349916b0cc70e426c8ef122fb8259fb726b", func := "loop.example/g00582/laws.FnShortest", spec := "fnShortest", inPlace := ["internal/bytealg.IndexByteString"], unfollowed := true, recurses := true, plainKeys := false, apart := false, narrowed := true }
def FnShortestUptoSaid : Prop := fnShortestUptoRow.holds Try.pinned (OpenSpec.upto fnShortestSpec)

end Rows
end Go.Proofs.Ytogamkblkoobkaa
