/-
  NARROWER THAN 'FOR EVERY INPUT', by the rows' own cells (each row's printed sentence says how): FnExactEqualRegex: loops · FnExactIsValidRegex: loops · FnExactFormatRegex: loops · FnExactMatchRegex: loops · FnExactIsNullable: loops · FnExactDerivativeOf: loops.
  DERIVED. THE GIVEN ROWS OF THIS SEAT. 9 by the template 'for every input the law returns true; each argument reads behind the call as it read before'; 0 by the template 'total and deterministic' (their statements: YtldgkgdgcfllmaaTotals.lean).
  GIVEN WITH THE SEED: the statements are not yours to turn. If you find one false, say at which input.
  Laid BY PROGRAM, IN A SANDBOX (cutbox-rows.mjs): the forced cells as the released guide's own fill.sh prints them over the translation f8ee381db8c07e2a… (all of the seat's roots in one cut). By AI agents, Wed Nov 11 2026. No macro, syntax, notation, axiom, sorry.
-/
import Derived.Test.YtldgkgdgcfllmaaChecked
import GoSem.Claim
import GoSem.ClaimJoined
import GoSem.ClaimMapViews
import Derived.JoinedTies
import Derived.KernelRfl
namespace Go.Proofs.Ytldgkgdgcfllmaa
/- THE CELL 'sum', in the pinned program and in every row, IS THE sha256 OF THE DUMP (.gsa) THAT YtldgkgdgcfllmaaProg.lean LOADS. Nothing in Lean hashes anything: it is a label: what it is worth is what the hold of that sum in a sandbox is worth. -/
noncomputable def Try.pinned : Pinned := { name := "ytldgkgdgcfllmaa", sum := "f8ee381db8c07e2a96028f504a1069ccedfeeb825fdca212161d75cf075a68e2", checked := Try.checked }
namespace Rows
def none {H : Type} : Left H := { results := [], args := [] }

/-- 'laws.FnExactEqualRegex': WHATEVER THE INPUT: true; the input reads as it did. -/
def fnExactEqualRegexSpec : ChangeSpec := { name := "fnExactEqualRegex", fn := fun _ => fun
  | [d1, d2] => { results := [.lit (.bool true)], args := [d1, d2] }
  | _ => none }
def fnExactEqualRegexRow : OpenClaim := { program := "ytldgkgdgcfllmaa", sum := "f8ee381db8c07e2a96028f504a1069ccedfeeb825fdca212161d75cf075a68e2", func := "loop.example/g00582/laws.FnExactEqualRegex", spec := "fnExactEqualRegex", unfollowed := true, recurses := true, loops := true, apart := false }
def FnExactEqualRegexSaid : Prop := fnExactEqualRegexRow.holds Try.pinned (OpenSpec.ofChange fnExactEqualRegexSpec)

/-- ITS FALSE NEIGHBOUR: 'it returns false'. Refute it at one input. -/
def fnExactEqualRegexWrong : ChangeSpec := { name := "fnExactEqualRegex", fn := fun _ => fun
  | [d1, d2] => { results := [.lit (.bool false)], args := [d1, d2] }
  | _ => none }
def FnExactEqualRegexWrongFalsely : Prop := fnExactEqualRegexRow.holds Try.pinned (OpenSpec.ofChange fnExactEqualRegexWrong)

/-- 'laws.FnExactIsValidRegex': WHATEVER THE INPUT: true; the input reads as it did. -/
def fnExactIsValidRegexSpec : ChangeSpec := { name := "fnExactIsValidRegex", fn := fun _ => fun
  | [d] => { results := [.lit (.bool true)], args := [d] }
  | _ => none }
def fnExactIsValidRegexRow : OpenClaim := { program := "ytldgkgdgcfllmaa", sum := "f8ee381db8c07e2a96028f504a1069ccedfeeb825fdca212161d75cf075a68e2", func := "loop.example/g00582/laws.FnExactIsValidRegex", spec := "fnExactIsValidRegex", inPlace := ["internal/bytealg.IndexByteString"], recurses := true, loops := true, apart := false }
def FnExactIsValidRegexSaid : Prop := fnExactIsValidRegexRow.holds Try.pinned (OpenSpec.ofChange fnExactIsValidRegexSpec)

/-- ITS FALSE NEIGHBOUR: 'it returns false'. Refute it at one input. -/
def fnExactIsValidRegexWrong : ChangeSpec := { name := "fnExactIsValidRegex", fn := fun _ => fun
  | [d] => { results := [.lit (.bool false)], args := [d] }
  | _ => none }
def FnExactIsValidRegexWrongFalsely : Prop := fnExactIsValidRegexRow.holds Try.pinned (OpenSpec.ofChange fnExactIsValidRegexWrong)

/-- 'laws.FnExactFormatRegex': WHATEVER THE INPUT: true; the input reads as it did. -/
def fnExactFormatRegexSpec : ChangeSpec := { name := "fnExactFormatRegex", fn := fun _ => fun
  | [d] => { results := [.lit (.bool true)], args := [d] }
  | _ => none }
def fnExactFormatRegexRow : OpenClaim := { program := "ytldgkgdgcfllmaa", sum := "f8ee381db8c07e2a96028f504a1069ccedfeeb825fdca212161d75cf075a68e2", func := "loop.example/g00582/laws.FnExactFormatRegex", spec := "fnExactFormatRegex", inPlace := ["internal/bytealg.IndexByteString"], recurses := true, loops := true, apart := false }
def FnExactFormatRegexSaid : Prop := fnExactFormatRegexRow.holds Try.pinned (OpenSpec.ofChange fnExactFormatRegexSpec)

/-- ITS FALSE NEIGHBOUR: 'it returns false'. Refute it at one input. -/
def fnExactFormatRegexWrong : ChangeSpec := { name := "fnExactFormatRegex", fn := fun _ => fun
  | [d] => { results := [.lit (.bool false)], args := [d] }
  | _ => none }
def FnExactFormatRegexWrongFalsely : Prop := fnExactFormatRegexRow.holds Try.pinned (OpenSpec.ofChange fnExactFormatRegexWrong)

/-- 'laws.FnExactParseRegex': WHATEVER THE INPUT: true; the input reads as it did. -/
def fnExactParseRegexSpec : ChangeSpec := { name := "fnExactParseRegex", fn := fun _ => fun
  | [d] => { results := [.lit (.bool true)], args := [d] }
  | _ => none }
def fnExactParseRegexRow : OpenClaim := { program := "ytldgkgdgcfllmaa", sum := "f8ee381db8c07e2a96028f504a1069ccedfeeb825fdca212161d75cf075a68e2", func := "loop.example/g00582/laws.FnExactParseRegex", spec := "fnExactParseRegex", inPlace := ["internal/bytealg.IndexByteString"], recurses := true, apart := false }
def FnExactParseRegexSaid : Prop := fnExactParseRegexRow.holds Try.pinned (OpenSpec.ofChange fnExactParseRegexSpec)

/-- ITS FALSE NEIGHBOUR: 'it returns false'. Refute it at one input. -/
def fnExactParseRegexWrong : ChangeSpec := { name := "fnExactParseRegex", fn := fun _ => fun
  | [d] => { results := [.lit (.bool false)], args := [d] }
  | _ => none }
def FnExactParseRegexWrongFalsely : Prop := fnExactParseRegexRow.holds Try.pinned (OpenSpec.ofChange fnExactParseRegexWrong)

/-- 'laws.FnExactMatchRegex': WHATEVER THE INPUT: true; the input reads as it did. -/
def fnExactMatchRegexSpec : ChangeSpec := { name := "fnExactMatchRegex", fn := fun _ => fun
  | [d1, d2] => { results := [.lit (.bool true)], args := [d1, d2] }
  | _ => none }
def fnExactMatchRegexRow : OpenClaim := { program := "ytldgkgdgcfllmaa", sum := "f8ee381db8c07e2a96028f504a1069ccedfeeb825fdca212161d75cf075a68e2", func := "loop.example/g00582/laws.FnExactMatchRegex", spec := "fnExactMatchRegex", inPlace := ["internal/bytealg.IndexByteString"], recurses := true, loops := true, apart := false }
def FnExactMatchRegexSaid : Prop := fnExactMatchRegexRow.holds Try.pinned (OpenSpec.ofChange fnExactMatchRegexSpec)

/-- ITS FALSE NEIGHBOUR: 'it returns false'. Refute it at one input. -/
def fnExactMatchRegexWrong : ChangeSpec := { name := "fnExactMatchRegex", fn := fun _ => fun
  | [d1, d2] => { results := [.lit (.bool false)], args := [d1, d2] }
  | _ => none }
def FnExactMatchRegexWrongFalsely : Prop := fnExactMatchRegexRow.holds Try.pinned (OpenSpec.ofChange fnExactMatchRegexWrong)

/-- 'laws.FnExactIsNullable': WHATEVER THE INPUT: true; the input reads as it did. -/
def fnExactIsNullableSpec : ChangeSpec := { name := "fnExactIsNullable", fn := fun _ => fun
  | [d] => { results := [.lit (.bool true)], args := [d] }
  | _ => none }
def fnExactIsNullableRow : OpenClaim := { program := "ytldgkgdgcfllmaa", sum := "f8ee381db8c07e2a96028f504a1069ccedfeeb825fdca212161d75cf075a68e2", func := "loop.example/g00582/laws.FnExactIsNullable", spec := "fnExactIsNullable", inPlace := ["internal/bytealg.IndexByteString"], recurses := true, loops := true, apart := false }
def FnExactIsNullableSaid : Prop := fnExactIsNullableRow.holds Try.pinned (OpenSpec.ofChange fnExactIsNullableSpec)

/-- ITS FALSE NEIGHBOUR: 'it returns false'. Refute it at one input. -/
def fnExactIsNullableWrong : ChangeSpec := { name := "fnExactIsNullable", fn := fun _ => fun
  | [d] => { results := [.lit (.bool false)], args := [d] }
  | _ => none }
def FnExactIsNullableWrongFalsely : Prop := fnExactIsNullableRow.holds Try.pinned (OpenSpec.ofChange fnExactIsNullableWrong)

/-- 'laws.FnExactDerivativeOf': WHATEVER THE INPUT: true; the input reads as it did. -/
def fnExactDerivativeOfSpec : ChangeSpec := { name := "fnExactDerivativeOf", fn := fun _ => fun
  | [d1, d2] => { results := [.lit (.bool true)], args := [d1, d2] }
  | _ => none }
def fnExactDerivativeOfRow : OpenClaim := { program := "ytldgkgdgcfllmaa", sum := "f8ee381db8c07e2a96028f504a1069ccedfeeb825fdca212161d75cf075a68e2", func := "loop.example/g00582/laws.FnExactDerivativeOf", spec := "fnExactDerivativeOf", inPlace := ["internal/bytealg.IndexByteString"], recurses := true, loops := true, apart := false }
def FnExactDerivativeOfSaid : Prop := fnExactDerivativeOfRow.holds Try.pinned (OpenSpec.ofChange fnExactDerivativeOfSpec)

/-- ITS FALSE NEIGHBOUR: 'it returns false'. Refute it at one input. -/
def fnExactDerivativeOfWrong : ChangeSpec := { name := "fnExactDerivativeOf", fn := fun _ => fun
  | [d1, d2] => { results := [.lit (.bool false)], args := [d1, d2] }
  | _ => none }
def FnExactDerivativeOfWrongFalsely : Prop := fnExactDerivativeOfRow.holds Try.pinned (OpenSpec.ofChange fnExactDerivativeOfWrong)

/-- 'laws.FnRegexText': WHATEVER THE INPUT: true; the input reads as it did. -/
def fnRegexTextSpec : ChangeSpec := { name := "fnRegexText", fn := fun _ => fun
  | [d] => { results := [.lit (.bool true)], args := [d] }
  | _ => none }
def fnRegexTextRow : OpenClaim := { program := "ytldgkgdgcfllmaa", sum := "f8ee381db8c07e2a96028f504a1069ccedfeeb825fdca212161d75cf075a68e2", func := "loop.example/g00582/laws.FnRegexText", spec := "fnRegexText", inPlace := ["internal/bytealg.IndexByteString"], unfollowed := true, recurses := true, apart := false }
def FnRegexTextSaid : Prop := fnRegexTextRow.holds Try.pinned (OpenSpec.ofChange fnRegexTextSpec)

/-- ITS FALSE NEIGHBOUR: 'it returns false'. Refute it at one input. -/
def fnRegexTextWrong : ChangeSpec := { name := "fnRegexText", fn := fun _ => fun
  | [d] => { results := [.lit (.bool false)], args := [d] }
  | _ => none }
def FnRegexTextWrongFalsely : Prop := fnRegexTextRow.holds Try.pinned (OpenSpec.ofChange fnRegexTextWrong)

/-- 'laws.FnDerivatives': WHATEVER THE INPUT: true; the input reads as it did. -/
def fnDerivativesSpec : ChangeSpec := { name := "fnDerivatives", fn := fun _ => fun
  | [d] => { results := [.lit (.bool true)], args := [d] }
  | _ => none }
def fnDerivativesRow : OpenClaim := { program := "ytldgkgdgcfllmaa", sum := "f8ee381db8c07e2a96028f504a1069ccedfeeb825fdca212161d75cf075a68e2", func := "loop.example/g00582/laws.FnDerivatives", spec := "fnDerivatives", inPlace := ["internal/bytealg.IndexByteString"], recurses := true, apart := false }
def FnDerivativesSaid : Prop := fnDerivativesRow.holds Try.pinned (OpenSpec.ofChange fnDerivativesSpec)

/-- ITS FALSE NEIGHBOUR: 'it returns false'. Refute it at one input. -/
def fnDerivativesWrong : ChangeSpec := { name := "fnDerivatives", fn := fun _ => fun
  | [d] => { results := [.lit (.bool false)], args := [d] }
  | _ => none }
def FnDerivativesWrongFalsely : Prop := fnDerivativesRow.holds Try.pinned (OpenSpec.ofChange fnDerivativesWrong)

/- THE SECOND FORM. 'bulk': how many values and letters a reading holds, each counted each time it is reached (what is shared counts as often as it is met; a slice's spare places count too). A statement '..UptoSaid' is the law's where the arguments, and the package variables that the reading takes, are together of bulk at most 1048576: NARROWER than '..Said'. Prove '..Said' where nothing that the law and all that it calls make is longer than what came in: it says more and counts as full. Else prove '..UptoSaid'. A law counts once. -/
mutual
def uptoBulk {H : Type} : DataW H → Nat
  | .lit (.string bytes) => bytes.length + 1
  | .lit _ => 1
  | .nil => 1
  | .ptr d => uptoBulk d + 1
  | .slice elems spare => uptoBulkAll elems + uptoBulkAll spare + 1
  | .agg parts => uptoBulkAll parts + 1
  | .iface _ d => uptoBulk d + 1
  | .map entries => uptoBulkEntries entries + 1
  | .held _ => 1
def uptoBulkAll {H : Type} : List (DataW H) → Nat
  | [] => 0
  | d :: r => uptoBulk d + uptoBulkAll r
def uptoBulkEntries {H : Type} : List (Lit × DataW H) → Nat
  | [] => 0
  | x :: r => uptoBulkEntry x + uptoBulkEntries r
def uptoBulkEntry {H : Type} : Lit × DataW H → Nat
  | (.string bytes, d) => bytes.length + uptoBulk d + 1
  | (_, d) => uptoBulk d + 1
 end
def uptoSmall : (H : Type) → List (DataW H) → Bool := fun _ ds => decide (uptoBulkAll ds ≤ 1048576)
def OpenSpec.upto (s : _root_.Go.ChangeSpec) : _root_.Go.OpenSpec := { _root_.Go.OpenSpec.ofChange s with cond := some uptoSmall }

/-- 'laws.FnExactEqualRegex', WHERE WHAT IT READS IS OF BULK AT MOST 1048576: true; the input reads as it did. -/
def fnExactEqualRegexUptoRow : OpenClaim := { program := "ytldgkgdgcfllmaa", sum := "f8ee381db8c07e2a96028f504a1069ccedfeeb825fdca212161d75cf075a68e2", func := "loop.example/g00582/laws.FnExactEqualRegex", spec := "fnExactEqualRegex", unfollowed := true, recurses := true, loops := true, apart := false, narrowed := true }
def FnExactEqualRegexUptoSaid : Prop := fnExactEqualRegexUptoRow.holds Try.pinned (OpenSpec.upto fnExactEqualRegexSpec)

/-- 'laws.FnExactIsValidRegex', WHERE WHAT IT READS IS OF BULK AT MOST 1048576: true; the input reads as it did. -/
def fnExactIsValidRegexUptoRow : OpenClaim := { program := "ytldgkgdgcfllmaa", sum := "f8ee381db8c07e2a96028f504a1069ccedfeeb825fdca212161d75cf075a68e2", func := "loop.example/g00582/laws.FnExactIsValidRegex", spec := "fnExactIsValidRegex", inPlace := ["internal/bytealg.IndexByteString"], recurses := true, loops := true, apart := false, narrowed := true }
def FnExactIsValidRegexUptoSaid : Prop := fnExactIsValidRegexUptoRow.holds Try.pinned (OpenSpec.upto fnExactIsValidRegexSpec)

/-- 'laws.FnExactFormatRegex', WHERE WHAT IT READS IS OF BULK AT MOST 1048576: true; the input reads as it did. -/
def fnExactFormatRegexUptoRow : OpenClaim := { program := "ytldgkgdgcfllmaa", sum := "f8ee381db8c07e2a96028f504a1069ccedfeeb825fdca212161d75cf075a68e2", func := "loop.example/g00582/laws.FnExactFormatRegex", spec := "fnExactFormatRegex", inPlace := ["internal/bytealg.IndexByteString"], recurses := true, loops := true, apart := false, narrowed := true }
def FnExactFormatRegexUptoSaid : Prop := fnExactFormatRegexUptoRow.holds Try.pinned (OpenSpec.upto fnExactFormatRegexSpec)

/-- 'laws.FnExactParseRegex', WHERE WHAT IT READS IS OF BULK AT MOST 1048576: true; the input reads as it did. -/
def fnExactParseRegexUptoRow : OpenClaim := { program := "ytldgkgdgcfllmaa", sum := "f8ee381db8c07e2a96028f504a1069ccedfeeb825fdca212161d75cf075a68e2", func := "loop.example/g00582/laws.FnExactParseRegex", spec := "fnExactParseRegex", inPlace := ["internal/bytealg.IndexByteString"], recurses := true, apart := false, narrowed := true }
def FnExactParseRegexUptoSaid : Prop := fnExactParseRegexUptoRow.holds Try.pinned (OpenSpec.upto fnExactParseRegexSpec)

/-- 'laws.FnExactMatchRegex', WHERE WHAT IT READS IS OF BULK AT MOST 1048576: true; the input reads as it did. -/
def fnExactMatchRegexUptoRow : OpenClaim := { program := "ytldgkgdgcfllmaa", sum := "f8ee381db8c07e2a96028f504a1069ccedfeeb825fdca212161d75cf075a68e2", func := "loop.example/g00582/laws.FnExactMatchRegex", spec := "fnExactMatchRegex", inPlace := ["internal/bytealg.IndexByteString"], recurses := true, loops := true, apart := false, narrowed := true }
def FnExactMatchRegexUptoSaid : Prop := fnExactMatchRegexUptoRow.holds Try.pinned (OpenSpec.upto fnExactMatchRegexSpec)

/-- 'laws.FnExactIsNullable', WHERE WHAT IT READS IS OF BULK AT MOST 1048576: true; the input reads as it did. -/
def fnExactIsNullableUptoRow : OpenClaim := { program := "ytldgkgdgcfllmaa", sum := "f8ee381db8c07e2a96028f504a1069ccedfeeb825fdca212161d75cf075a68e2", func := "loop.example/g00582/laws.FnExactIsNullable", spec := "fnExactIsNullable", inPlace := ["internal/bytealg.IndexByteString"], recurses := true, loops := true, apart := false, narrowed := true }
def FnExactIsNullableUptoSaid : Prop := fnExactIsNullableUptoRow.holds Try.pinned (OpenSpec.upto fnExactIsNullableSpec)

/-- 'laws.FnExactDerivativeOf', WHERE WHAT IT READS IS OF BULK AT MOST 1048576: true; the input reads as it did. -/
def fnExactDerivativeOfUptoRow : OpenClaim := { program := "ytldgkgdgcfllmaa", sum := "f8ee381db8c07e2a96028f504a1069ccedfeeb825fdca212161d75cf075a68e2", func := "loop.example/g00582/laws.FnExactDerivativeOf", spec := "fnExactDerivativeOf", inPlace := ["internal/bytealg.IndexByteString"], recurses := true, loops := true, apart := false, narrowed := true }
def FnExactDerivativeOfUptoSaid : Prop := fnExactDerivativeOfUptoRow.holds Try.pinned (OpenSpec.upto fnExactDerivativeOfSpec)

/-- 'laws.FnRegexText', WHERE WHAT IT READS IS OF BULK AT MOST 1048576: true; the input reads as it did. -/
def fnRegexTextUptoRow : OpenClaim := { program := "ytldgkgdgcfllmaa", sum := "f8ee381db8c07e2a96028f504a1069ccedfeeb825fdca212161d75cf075a68e2", func := "loop.example/g00582/laws.FnRegexText", spec := "fnRegexText", inPlace := ["internal/bytealg.IndexByteString"], unfollowed := true, recurses := true, apart := false, narrowed := true }
def FnRegexTextUptoSaid : Prop := fnRegexTextUptoRow.holds Try.pinned (OpenSpec.upto fnRegexTextSpec)

/-- 'laws.FnDerivatives', WHERE WHAT IT READS IS OF BULK AT MOST 1048576: true; the input reads as it did. -/
def fnDerivativesUptoRow : OpenClaim := { program := "ytldgkgdgcfllmaa", sum := "f8ee381db8c07e2a96028f504a1069ccedfeeb825fdca212161d75cf075a68e2", func := "loop.example/g00582/laws.FnDerivatives", spec := "fnDerivatives", inPlace := ["internal/bytealg.IndexByteString"], recurses := true, apart := false, narrowed := true }
def FnDerivativesUptoSaid : Prop := fnDerivativesUptoRow.holds Try.pinned (OpenSpec.upto fnDerivativesSpec)

end Rows
end Go.Proofs.Ytldgkgdgcfllmaa
