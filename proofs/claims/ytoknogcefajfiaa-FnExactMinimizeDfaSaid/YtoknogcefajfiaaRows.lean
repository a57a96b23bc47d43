/-
  No cell of these rows narrows 'for every input' (looked for: loops, veiled, ifaces, maps, wideKeys, modest, calm, conditions, laid).
  DERIVED. THE GIVEN ROWS OF THIS SEAT. 12 by the template 'for every input the law returns true; each argument reads behind the call as it read before'; 0 by the template 'total and deterministic' (their statements: YtoknogcefajfiaaTotals.lean).
  GIVEN WITH THE SEED: the statements are not yours to turn. If you find one false, say at which input.
  Laid BY PROGRAM, IN A SANDBOX (cutbox-rows.mjs): the forced cells as the released guide's own fill.sh prints them over the translation 7ce8db4810ad5ca6… (all of the seat's roots in one cut). By AI agents, Wed Nov 11 2026. No macro, syntax, notation, axiom, sorry.
-/
import Derived.Test.YtoknogcefajfiaaChecked
import GoSem.Claim
import GoSem.ClaimJoined
import GoSem.ClaimMapViews
import Derived.JoinedTies
import Derived.KernelRfl
namespace Go.Proofs.Ytoknogcefajfiaa
/- THE CELL 'sum', in the pinned program and in every row, IS THE sha256 OF THE DUMP (.gsa) THAT YtoknogcefajfiaaProg.lean LOADS. Nothing in Lean hashes anything: it is a label: what it is worth is what the hold of that sum in a sandbox is worth. -/
noncomputable def Try.pinned : Pinned := { name := "ytoknogcefajfiaa", sum := "7ce8db4810ad5ca691d447662846405b67a5fa3e15886bf5b3ba23fbed90bbcf", checked := Try.checked }
namespace Rows
def none {H : Type} : Left H := { results := [], args := [] }

/-- 'laws.FnExactIsValidDfa': WHATEVER THE INPUT: true; the input reads as it did. -/
def fnExactIsValidDfaSpec : ChangeSpec := { name := "fnExactIsValidDfa", fn := fun _ => fun
  | [d] => { results := [.lit (.bool true)], args := [d] }
  | _ => none }
def fnExactIsValidDfaRow : OpenClaim := { program := "ytoknogcefajfiaa", sum := "7ce8db4810ad5ca691d447662846405b67a5fa3e15886bf5b3ba23fbed90bbcf", func := "loop.example/g00582/laws.FnExactIsValidDfa", spec := "fnExactIsValidDfa", unfollowed := true, recurses := true, plainKeys := false, apart := false }
def FnExactIsValidDfaSaid : Prop := fnExactIsValidDfaRow.holds Try.pinned (OpenSpec.ofChange fnExactIsValidDfaSpec)

/-- ITS FALSE NEIGHBOUR: 'it returns false'. Refute it at one input. -/
def fnExactIsValidDfaWrong : ChangeSpec := { name := "fnExactIsValidDfa", fn := fun _ => fun
  | [d] => { results := [.lit (.bool false)], args := [d] }
  | _ => none }
def FnExactIsValidDfaWrongFalsely : Prop := fnExactIsValidDfaRow.holds Try.pinned (OpenSpec.ofChange fnExactIsValidDfaWrong)

/-- 'laws.FnExactEqualDfa': WHATEVER THE INPUT: true; the input reads as it did. -/
def fnExactEqualDfaSpec : ChangeSpec := { name := "fnExactEqualDfa", fn := fun _ => fun
  | [d1, d2] => { results := [.lit (.bool true)], args := [d1, d2] }
  | _ => none }
def fnExactEqualDfaRow : OpenClaim := { program := "ytoknogcefajfiaa", sum := "7ce8db4810ad5ca691d447662846405b67a5fa3e15886bf5b3ba23fbed90bbcf", func := "loop.example/g00582/laws.FnExactEqualDfa", spec := "fnExactEqualDfa", unfollowed := true, recurses := true, plainKeys := false, apart := false }
def FnExactEqualDfaSaid : Prop := fnExactEqualDfaRow.holds Try.pinned (OpenSpec.ofChange fnExactEqualDfaSpec)

/-- ITS FALSE NEIGHBOUR: 'it returns false'. Refute it at one input. -/
def fnExactEqualDfaWrong : ChangeSpec := { name := "fnExactEqualDfa", fn := fun _ => fun
  | [d1, d2] => { results := [.lit (.bool false)], args := [d1, d2] }
  | _ => none }
def FnExactEqualDfaWrongFalsely : Prop := fnExactEqualDfaRow.holds Try.pinned (OpenSpec.ofChange fnExactEqualDfaWrong)

/-- 'laws.FnExactRunDfa': WHATEVER THE INPUT: true; the input reads as it did. -/
def fnExactRunDfaSpec : ChangeSpec := { name := "fnExactRunDfa", fn := fun _ => fun
  | [d1, d2, d3] => { results := [.lit (.bool true)], args := [d1, d2, d3] }
  | _ => none }
def fnExactRunDfaRow : OpenClaim := { program := "ytoknogcefajfiaa", sum := "7ce8db4810ad5ca691d447662846405b67a5fa3e15886bf5b3ba23fbed90bbcf", func := "loop.example/g00582/laws.FnExactRunDfa", spec := "fnExactRunDfa", inPlace := ["internal/bytealg.IndexByteString"], unfollowed := true, recurses := true, plainKeys := false, apart := false }
def FnExactRunDfaSaid : Prop := fnExactRunDfaRow.holds Try.pinned (OpenSpec.ofChange fnExactRunDfaSpec)

/-- ITS FALSE NEIGHBOUR: 'it returns false'. Refute it at one input. -/
def fnExactRunDfaWrong : ChangeSpec := { name := "fnExactRunDfa", fn := fun _ => fun
  | [d1, d2, d3] => { results := [.lit (.bool false)], args := [d1, d2, d3] }
  | _ => none }
def FnExactRunDfaWrongFalsely : Prop := fnExactRunDfaRow.holds Try.pinned (OpenSpec.ofChange fnExactRunDfaWrong)

/-- 'laws.FnExactAcceptsWord': WHATEVER THE INPUT: true; the input reads as it did. -/
def fnExactAcceptsWordSpec : ChangeSpec := { name := "fnExactAcceptsWord", fn := fun _ => fun
  | [d1, d2] => { results := [.lit (.bool true)], args := [d1, d2] }
  | _ => none }
def fnExactAcceptsWordRow : OpenClaim := { program := "ytoknogcefajfiaa", sum := "7ce8db4810ad5ca691d447662846405b67a5fa3e15886bf5b3ba23fbed90bbcf", func := "loop.example/g00582/laws.FnExactAcceptsWord", spec := "fnExactAcceptsWord", inPlace := ["internal/bytealg.IndexByteString"], unfollowed := true, recurses := true, plainKeys := false, apart := false }
def FnExactAcceptsWordSaid : Prop := fnExactAcceptsWordRow.holds Try.pinned (OpenSpec.ofChange fnExactAcceptsWordSpec)

/-- ITS FALSE NEIGHBOUR: 'it returns false'. Refute it at one input. -/
def fnExactAcceptsWordWrong : ChangeSpec := { name := "fnExactAcceptsWord", fn := fun _ => fun
  | [d1, d2] => { results := [.lit (.bool false)], args := [d1, d2] }
  | _ => none }
def FnExactAcceptsWordWrongFalsely : Prop := fnExactAcceptsWordRow.holds Try.pinned (OpenSpec.ofChange fnExactAcceptsWordWrong)

/-- 'laws.FnExactCountWords': WHATEVER THE INPUT: true; the input reads as it did. -/
def fnExactCountWordsSpec : ChangeSpec := { name := "fnExactCountWords", fn := fun _ => fun
  | [d1, d2] => { results := [.lit (.bool true)], args := [d1, d2] }
  | _ => none }
def fnExactCountWordsRow : OpenClaim := { program := "ytoknogcefajfiaa", sum := "7ce8db4810ad5ca691d447662846405b67a5fa3e15886bf5b3ba23fbed90bbcf", func := "loop.example/g00582/laws.FnExactCountWords", spec := "fnExactCountWords", unfollowed := true, recurses := true, plainKeys := false, apart := false }
def FnExactCountWordsSaid : Prop := fnExactCountWordsRow.holds Try.pinned (OpenSpec.ofChange fnExactCountWordsSpec)

/-- ITS FALSE NEIGHBOUR: 'it returns false'. Refute it at one input. -/
def fnExactCountWordsWrong : ChangeSpec := { name := "fnExactCountWords", fn := fun _ => fun
  | [d1, d2] => { results := [.lit (.bool false)], args := [d1, d2] }
  | _ => none }
def FnExactCountWordsWrongFalsely : Prop := fnExactCountWordsRow.holds Try.pinned (OpenSpec.ofChange fnExactCountWordsWrong)

/-- 'laws.FnExactShortestWord': WHATEVER THE INPUT: true; the input reads as it did. -/
def fnExactShortestWordSpec : ChangeSpec := { name := "fnExactShortestWord", fn := fun _ => fun
  | [d] => { results := [.lit (.bool true)], args := [d] }
  | _ => none }
def fnExactShortestWordRow : OpenClaim := { program := "ytoknogcefajfiaa", sum := "7ce8db4810ad5ca691d447662846405b67a5fa3e15886bf5b3ba23fbed90bbcf", func := "loop.example/g00582/laws.FnExactShortestWord", spec := "fnExactShortestWord", unfollowed := true, recurses := true, plainKeys := false, apart := false }
def FnExactShortestWordSaid : Prop := fnExactShortestWordRow.holds Try.pinned (OpenSpec.ofChange fnExactShortestWordSpec)

/-- ITS FALSE NEIGHBOUR: 'it returns false'. Refute it at one input. -/
def fnExactShortestWordWrong : ChangeSpec := { name := "fnExactShortestWord", fn := fun _ => fun
  | [d] => { results := [.lit (.bool false)], args := [d] }
  | _ => none }
def FnExactShortestWordWrongFalsely : Prop := fnExactShortestWordRow.holds Try.pinned (OpenSpec.ofChange fnExactShortestWordWrong)

/-- 'laws.FnExactDifferWord': WHATEVER THE INPUT: true; the input reads as it did. -/
def fnExactDifferWordSpec : ChangeSpec := { name := "fnExactDifferWord", fn := fun _ => fun
  | [d1, d2] => { results := [.lit (.bool true)], args := [d1, d2] }
  | _ => none }
def fnExactDifferWordRow : OpenClaim := { program := "ytoknogcefajfiaa", sum := "7ce8db4810ad5ca691d447662846405b67a5fa3e15886bf5b3ba23fbed90bbcf", func := "loop.example/g00582/laws.FnExactDifferWord", spec := "fnExactDifferWord", unfollowed := true, recurses := true, plainKeys := false, apart := false }
def FnExactDifferWordSaid : Prop := fnExactDifferWordRow.holds Try.pinned (OpenSpec.ofChange fnExactDifferWordSpec)

/-- ITS FALSE NEIGHBOUR: 'it returns false'. Refute it at one input. -/
def fnExactDifferWordWrong : ChangeSpec := { name := "fnExactDifferWord", fn := fun _ => fun
  | [d1, d2] => { results := [.lit (.bool false)], args := [d1, d2] }
  | _ => none }
def FnExactDifferWordWrongFalsely : Prop := fnExactDifferWordRow.holds Try.pinned (OpenSpec.ofChange fnExactDifferWordWrong)

/-- 'laws.FnExactIsIncluded': WHATEVER THE INPUT: true; the input reads as it did. -/
def fnExactIsIncludedSpec : ChangeSpec := { name := "fnExactIsIncluded", fn := fun _ => fun
  | [d1, d2] => { results := [.lit (.bool true)], args := [d1, d2] }
  | _ => none }
def fnExactIsIncludedRow : OpenClaim := { program := "ytoknogcefajfiaa", sum := "7ce8db4810ad5ca691d447662846405b67a5fa3e15886bf5b3ba23fbed90bbcf", func := "loop.example/g00582/laws.FnExactIsIncluded", spec := "fnExactIsIncluded", unfollowed := true, recurses := true, plainKeys := false, apart := false }
def FnExactIsIncludedSaid : Prop := fnExactIsIncludedRow.holds Try.pinned (OpenSpec.ofChange fnExactIsIncludedSpec)

/-- ITS FALSE NEIGHBOUR: 'it returns false'. Refute it at one input. -/
def fnExactIsIncludedWrong : ChangeSpec := { name := "fnExactIsIncluded", fn := fun _ => fun
  | [d1, d2] => { results := [.lit (.bool false)], args := [d1, d2] }
  | _ => none }
def FnExactIsIncludedWrongFalsely : Prop := fnExactIsIncludedRow.holds Try.pinned (OpenSpec.ofChange fnExactIsIncludedWrong)

/-- 'laws.FnExactIsFinite': WHATEVER THE INPUT: true; the input reads as it did. -/
def fnExactIsFiniteSpec : ChangeSpec := { name := "fnExactIsFinite", fn := fun _ => fun
  | [d] => { results := [.lit (.bool true)], args := [d] }
  | _ => none }
def fnExactIsFiniteRow : OpenClaim := { program := "ytoknogcefajfiaa", sum := "7ce8db4810ad5ca691d447662846405b67a5fa3e15886bf5b3ba23fbed90bbcf", func := "loop.example/g00582/laws.FnExactIsFinite", spec := "fnExactIsFinite", unfollowed := true, recurses := true, plainKeys := false, apart := false }
def FnExactIsFiniteSaid : Prop := fnExactIsFiniteRow.holds Try.pinned (OpenSpec.ofChange fnExactIsFiniteSpec)

/-- ITS FALSE NEIGHBOUR: 'it returns false'. Refute it at one input. -/
def fnExactIsFiniteWrong : ChangeSpec := { name := "fnExactIsFinite", fn := fun _ => fun
  | [d] => { results := [.lit (.bool false)], args := [d] }
  | _ => none }
def FnExactIsFiniteWrongFalsely : Prop := fnExactIsFiniteRow.holds Try.pinned (OpenSpec.ofChange fnExactIsFiniteWrong)

/-- 'laws.FnExactLengthsOf': WHATEVER THE INPUT: true; the input reads as it did. -/
def fnExactLengthsOfSpec : ChangeSpec := { name := "fnExactLengthsOf", fn := fun _ => fun
  | [d] => { results := [.lit (.bool true)], args := [d] }
  | _ => none }
def fnExactLengthsOfRow : OpenClaim := { program := "ytoknogcefajfiaa", sum := "7ce8db4810ad5ca691d447662846405b67a5fa3e15886bf5b3ba23fbed90bbcf", func := "loop.example/g00582/laws.FnExactLengthsOf", spec := "fnExactLengthsOf", unfollowed := true, recurses := true, plainKeys := false, apart := false }
def FnExactLengthsOfSaid : Prop := fnExactLengthsOfRow.holds Try.pinned (OpenSpec.ofChange fnExactLengthsOfSpec)

/-- ITS FALSE NEIGHBOUR: 'it returns false'. Refute it at one input. -/
def fnExactLengthsOfWrong : ChangeSpec := { name := "fnExactLengthsOf", fn := fun _ => fun
  | [d] => { results := [.lit (.bool false)], args := [d] }
  | _ => none }
def FnExactLengthsOfWrongFalsely : Prop := fnExactLengthsOfRow.holds Try.pinned (OpenSpec.ofChange fnExactLengthsOfWrong)

/-- 'laws.FnExactAcceptedWords': WHATEVER THE INPUT: true; the input reads as it did. -/
def fnExactAcceptedWordsSpec : ChangeSpec := { name := "fnExactAcceptedWords", fn := fun _ => fun
  | [d1, d2] => { results := [.lit (.bool true)], args := [d1, d2] }
  | _ => none }
def fnExactAcceptedWordsRow : OpenClaim := { program := "ytoknogcefajfiaa", sum := "7ce8db4810ad5ca691d447662846405b67a5fa3e15886bf5b3ba23fbed90bbcf", func := "loop.example/g00582/laws.FnExactAcceptedWords", spec := "fnExactAcceptedWords", inPlace := ["internal/bytealg.IndexByteString"], unfollowed := true, recurses := true, plainKeys := false, apart := false }
def FnExactAcceptedWordsSaid : Prop := fnExactAcceptedWordsRow.holds Try.pinned (OpenSpec.ofChange fnExactAcceptedWordsSpec)

/-- ITS FALSE NEIGHBOUR: 'it returns false'. Refute it at one input. -/
def fnExactAcceptedWordsWrong : ChangeSpec := { name := "fnExactAcceptedWords", fn := fun _ => fun
  | [d1, d2] => { results := [.lit (.bool false)], args := [d1, d2] }
  | _ => none }
def FnExactAcceptedWordsWrongFalsely : Prop := fnExactAcceptedWordsRow.holds Try.pinned (OpenSpec.ofChange fnExactAcceptedWordsWrong)

/-- 'laws.FnExactMinimizeDfa': WHATEVER THE INPUT: true; the input reads as it did. -/
def fnExactMinimizeDfaSpec : ChangeSpec := { name := "fnExactMinimizeDfa", fn := fun _ => fun
  | [d] => { results := [.lit (.bool true)], args := [d] }
  | _ => none }
def fnExactMinimizeDfaRow : OpenClaim := { program := "ytoknogcefajfiaa", sum := "7ce8db4810ad5ca691d447662846405b67a5fa3e15886bf5b3ba23fbed90bbcf", func := "loop.example/g00582/laws.FnExactMinimizeDfa", spec := "fnExactMinimizeDfa", unfollowed := true, recurses := true, plainKeys := false, apart := false }
def FnExactMinimizeDfaSaid : Prop := fnExactMinimizeDfaRow.holds Try.pinned (OpenSpec.ofChange fnExactMinimizeDfaSpec)

/-- ITS FALSE NEIGHBOUR: 'it returns false'. Refute it at one input. -/
def fnExactMinimizeDfaWrong : ChangeSpec := { name := "fnExactMinimizeDfa", fn := fun _ => fun
  | [d] => { results := [.lit (.bool false)], args := [d] }
  | _ => none }
def FnExactMinimizeDfaWrongFalsely : Prop := fnExactMinimizeDfaRow.holds Try.pinned (OpenSpec.ofChange fnExactMinimizeDfaWrong)

/- THE SECOND FORM. 'bulk': how many values and letters a reading holds, each counted each time it is reached (what is shared counts as often as it is met; a slice's spare places count too). A statement '..UptoSaid' is the law's where the arguments, and the package variables that the reading takes, are together of bulk at most 1048576: NARROWER than '..Said'. Prove '..Said' where nothing that the law and all that it calls make is longer than what came in: it says more and counts as full. Else prove '..UptoSaid'. A law counts once. -/
mutual
def uptoBulk {H : Type} : DataW H → Nat
  | .lit (.string bytes) => bytes.length + 1
  | .lit _ => 1
  | .nil => 1
  | .ptr d => uptoBulk d + 1
  | .slice elems spare => uptoBulkAll elems + uptoBulkAll spare + 1
  | .agg parts => uptoBulkAll parts + 1
  | .iface _ d => uptoBulk d + 1
  | .map entries => uptoBulkEntries entries + 1
  | .held _ => 1
def uptoBulkAll {H : Type} : List (DataW H) → Nat
  | [] => 0
  | d :: r => uptoBulk d + uptoBulkAll r
def uptoBulkEntries {H : Type} : List (Lit × DataW H) → Nat
  | [] => 0
  | x :: r => uptoBulkEntry x + uptoBulkEntries r
def uptoBulkEntry {H : Type} : Lit × DataW H → Nat
  | (.string bytes, d) => bytes.length + uptoBulk d + 1
  | (_, d) => uptoBulk d + 1
 end
def uptoSmall : (H : Type) → List (DataW H) → Bool := fun _ ds => decide (uptoBulkAll ds ≤ 1048576)
def OpenSpec.upto (s : _root_.Go.ChangeSpec) : _root_.Go.OpenSpec := { _root_.Go.OpenSpec.ofChange s with cond := some uptoSmall }

/-- 'laws.FnExactIsValidDfa', WHERE WHAT IT READS IS OF BULK AT MOST 1048576: true; the input reads as it did. -/
def fnExactIsValidDfaUptoRow : OpenClaim := { program := "ytoknogcefajfiaa", sum := "7ce8db4810ad5ca691d447662846405b67a5fa3e15886bf5b3ba23fbed90bbcf", func := "loop.example/g00582/laws.FnExactIsValidDfa", spec := "fnExactIsValidDfa", unfollowed := true, recurses := true, plainKeys := false, apart := false, narrowed := true }
def FnExactIsValidDfaUptoSaid : Prop := fnExactIsValidDfaUptoRow.holds Try.pinned (OpenSpec.upto fnExactIsValidDfaSpec)

/-- 'laws.FnExactEqualDfa', WHERE WHAT IT READS IS OF BULK AT MOST 1048576: true; the input reads as it did. -/
def fnExactEqualDfaUptoRow : OpenClaim := { program := "ytoknogcefajfiaa", sum := "7ce8db4810ad5ca691d447662846405b67a5fa3e15886bf5b3ba23fbed90bbcf", func := "loop.example/g00582/laws.FnExactEqualDfa", spec := "fnExactEqualDfa", unfollowed := true, recurses := true, plainKeys := false, apart := false, narrowed := true }
def FnExactEqualDfaUptoSaid : Prop := fnExactEqualDfaUptoRow.holds Try.pinned (OpenSpec.upto fnExactEqualDfaSpec)

/-- 'laws.FnExactRunDfa', WHERE WHAT IT READS IS OF BULK AT MOST 1048576: true; the input reads as it did. -/
def fnExactRunDfaUptoRow : OpenClaim := { program := "ytoknogcefajfiaa", sum := "7ce8db4810ad5ca691d447662846405b67a5fa3e15886bf5b3ba23fbed90bbcf", func := "loop.example/g00582/laws.FnExactRunDfa", spec := "fnExactRunDfa", inPlace := ["internal/bytealg.IndexByteString"], unfollowed := true, recurses := true, plainKeys := false, apart := false, narrowed := true }
def FnExactRunDfaUptoSaid : Prop := fnExactRunDfaUptoRow.holds Try.pinned (OpenSpec.upto fnExactRunDfaSpec)

/-- 'laws.FnExactAcceptsWord', WHERE WHAT IT READS IS OF BULK AT MOST 1048576: true; the input reads as it did. -/
def fnExactAcceptsWordUptoRow : OpenClaim := { program := "ytoknogcefajfiaa", sum := "7ce8db4810ad5ca691d447662846405b67a5fa3e15886bf5b3ba23fbed90bbcf", func := "loop.example/g00582/laws.FnExactAcceptsWord", spec := "fnExactAcceptsWord", inPlace := ["internal/bytealg.IndexByteString"], unfollowed := true, recurses := true, plainKeys := false, apart := false, narrowed := true }
def FnExactAcceptsWordUptoSaid : Prop := fnExactAcceptsWordUptoRow.holds Try.pinned (OpenSpec.upto fnExactAcceptsWordSpec)

/-- 'laws.FnExactCountWords', WHERE WHAT IT READS IS OF BULK AT MOST 1048576: true; the input reads as it did. -/
def fnExactCountWordsUptoRow : OpenClaim := { program := "ytoknogcefajfiaa", sum := "7ce8db4810ad5ca691d447662846405b67a5fa3e15886bf5b3ba23fbed90bbcf", func := "loop.example/g00582/laws.FnExactCountWords", spec := "fnExactCountWords", unfollowed := true, recurses := true, plainKeys := false, apart := false, narrowed := true }
def FnExactCountWordsUptoSaid : Prop := fnExactCountWordsUptoRow.holds Try.pinned (OpenSpec.upto fnExactCountWordsSpec)

/-- 'laws.FnExactShortestWord', WHERE WHAT IT READS IS OF BULK AT MOST 1048576: true; the input reads as it did. -/
def fnExactShortestWordUptoRow : OpenClaim := { program := "ytoknogcefajfiaa", sum := "7ce8db4810ad5ca691d447662846405b67a5fa3e15886bf5b3ba23fbed90bbcf", func := "loop.example/g00582/laws.FnExactShortestWord", spec := "fnExactShortestWord", unfollowed := true, recurses := true, plainKeys := false, apart := false, narrowed := true }
def FnExactShortestWordUptoSaid : Prop := fnExactShortestWordUptoRow.holds Try.pinned (OpenSpec.upto fnExactShortestWordSpec)

/-- 'laws.FnExactDifferWord', WHERE WHAT IT READS IS OF BULK AT MOST 1048576: true; the input reads as it did. -/
def fnExactDifferWordUptoRow : OpenClaim := { program := "ytoknogcefajfiaa", sum := "7ce8db4810ad5ca691d447662846405b67a5fa3e15886bf5b3ba23fbed90bbcf", func := "loop.example/g00582/laws.FnExactDifferWord", spec := "fnExactDifferWord", unfollowed := true, recurses := true, plainKeys := false, apart := false, narrowed := true }
def FnExactDifferWordUptoSaid : Prop := fnExactDifferWordUptoRow.holds Try.pinned (OpenSpec.upto fnExactDifferWordSpec)

/-- 'laws.FnExactIsIncluded', WHERE WHAT IT READS IS OF BULK AT MOST 1048576: true; the input reads as it did. -/
def fnExactIsIncludedUptoRow : OpenClaim := { program := "ytoknogcefajfiaa", sum := "7ce8db4810ad5ca691d447662846405b67a5fa3e15886bf5b3ba23fbed90bbcf", func := "loop.example/g00582/laws.FnExactIsIncluded", spec := "fnExactIsIncluded", unfollowed := true, recurses := true, plainKeys := false, apart := false, narrowed := true }
def FnExactIsIncludedUptoSaid : Prop := fnExactIsIncludedUptoRow.holds Try.pinned (OpenSpec.upto fnExactIsIncludedSpec)

/-- 'laws.FnExactIsFinite', WHERE WHAT IT READS IS OF BULK AT MOST 1048576: true; the input reads as it did. -/
def fnExactIsFiniteUptoRow : OpenClaim := { program := "ytoknogcefajfiaa", sum := "7ce8db4810ad5ca691d447662846405b67a5fa3e15886bf5b3ba23fbed90bbcf", func := "loop.example/g00582/laws.FnExactIsFinite", spec := "fnExactIsFinite", unfollowed := true, recurses := true, plainKeys := false, apart := false, narrowed := true }
def FnExactIsFiniteUptoSaid : Prop := fnExactIsFiniteUptoRow.holds Try.pinned (OpenSpec.upto fnExactIsFiniteSpec)

/-- 'laws.FnExactLengthsOf', WHERE WHAT IT READS IS OF BULK AT MOST 1048576: true; the input reads as it did. -/
def fnExactLengthsOfUptoRow : OpenClaim := { program := "ytoknogcefajfiaa", sum := "7ce8db4810ad5ca691d447662846405b67a5fa3e15886bf5b3ba23fbed90bbcf", func := "loop.example/g00582/laws.FnExactLengthsOf", spec := "fnExactLengthsOf", unfollowed := true, recurses := true, plainKeys := false, apart := false, narrowed := true }
def FnExactLengthsOfUptoSaid : Prop := fnExactLengthsOfUptoRow.holds Try.pinned (OpenSpec.upto fnExactLengthsOfSpec)

/-- 'laws.FnExactAcceptedWords', WHERE WHAT IT READS IS OF BULK AT MOST 1048576: true; the input reads as it did. -/
def fnExactAcceptedWordsUptoRow : OpenClaim := { program := "ytoknogcefajfiaa", sum := "7ce8db4810ad5ca691d447662846405b67a5fa3e15886bf5b3ba23fbed90bbcf", func := "loop.example/g00582/laws.FnExactAcceptedWords", spec := "fnExactAcceptedWords", inPlace := ["internal/bytealg.IndexByteString"], unfollowed := true, recurses := true, plainKeys := false, apart := false, narrowed := true }
def FnExactAcceptedWordsUptoSaid : Prop := fnExactAcceptedWordsUptoRow.holds Try.pinned (OpenSpec.upto fnExactAcceptedWordsSpec)

/-- 'laws.FnExactMinimizeDfa', WHERE WHAT IT READS IS OF BULK AT MOST 1048576: true; the input reads as it did. -/
def fnExactMinimizeDfaUptoRow : OpenClaim := { program := "ytoknogcefajfiaa", sum := "7ce8db4810ad5ca691d447662846405b67a5fa3e15886bf5b3ba23fbed90bbcf", func := "loop.example/g00582/laws.FnExactMinimizeDfa", spec := "fnExactMinimizeDfa", unfollowed := true, recurses := true, plainKeys := false, apart := false, narrowed := true }
def FnExactMinimizeDfaUptoSaid : Prop := fnExactMinimizeDfaUptoRow.holds Try.pinned (OpenSpec.upto fnExactMinimizeDfaSpec)

end Rows
end Go.Proofs.Ytoknogcefajfiaa
