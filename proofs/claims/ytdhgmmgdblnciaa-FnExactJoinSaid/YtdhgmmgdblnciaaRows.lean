/-
  No cell of these rows narrows 'for every input' (looked for: loops, veiled, ifaces, maps, wideKeys, modest, calm, conditions, laid).
  DERIVED. THE GIVEN ROWS OF THIS SEAT. 12 by the template 'for every input the law returns true; each argument reads behind the call as it read before'; 0 by the template 'total and deterministic' (their statements: YtdhgmmgdblnciaaTotals.lean).
  GIVEN WITH THE SEED: the statements are not yours to turn. If you find one false, say at which input.
  Laid BY PROGRAM, IN A SANDBOX (cutbox-rows.mjs): the forced cells as the released guide's own fill.sh prints them over the translation eadf77b726767dd0… (all of the seat's roots in one cut). By AI agents, Wed Nov 11 2026. No macro, syntax, notation, axiom, sorry.
-/
import Derived.Test.YtdhgmmgdblnciaaChecked
import GoSem.Claim
import GoSem.ClaimJoined
import GoSem.ClaimMapViews
import Derived.JoinedTies
import Derived.KernelRfl
namespace Go.Proofs.Ytdhgmmgdblnciaa
/- THE CELL 'sum', in the pinned program and in every row, IS THE sha256 OF THE DUMP (.gsa) THAT YtdhgmmgdblnciaaProg.lean LOADS. Nothing in Lean hashes anything: it is a label: what it is worth is what the hold of that sum in a sandbox is worth. -/
noncomputable def Try.pinned : Pinned := { name := "ytdhgmmgdblnciaa", sum := "eadf77b726767dd0e121d7d16c4339a4204e0d596666da72a760c513ababab2d", checked := Try.checked }
namespace Rows
def none {H : Type} : Left H := { results := [], args := [] }

/-- 'laws.FnExactConstants': WHATEVER THE INPUT: true; the input reads as it did. -/
def fnExactConstantsSpec : ChangeSpec := { name := "fnExactConstants", fn := fun _ => fun
  | [] => { results := [.lit (.bool true)], args := [] }
  | _ => none }
def fnExactConstantsRow : OpenClaim := { program := "ytdhgmmgdblnciaa", sum := "eadf77b726767dd0e121d7d16c4339a4204e0d596666da72a760c513ababab2d", func := "loop.example/g00582/laws.FnExactConstants", spec := "fnExactConstants", apart := false }
def FnExactConstantsSaid : Prop := fnExactConstantsRow.holds Try.pinned (OpenSpec.ofChange fnExactConstantsSpec)

/-- ITS FALSE NEIGHBOUR: 'it returns false'. Refute it at one input. -/
def fnExactConstantsWrong : ChangeSpec := { name := "fnExactConstants", fn := fun _ => fun
  | [] => { results := [.lit (.bool false)], args := [] }
  | _ => none }
def FnExactConstantsWrongFalsely : Prop := fnExactConstantsRow.holds Try.pinned (OpenSpec.ofChange fnExactConstantsWrong)

/-- 'laws.FnExactLetterIndex': WHATEVER THE INPUT: true; the input reads as it did. -/
def fnExactLetterIndexSpec : ChangeSpec := { name := "fnExactLetterIndex", fn := fun _ => fun
  | [d] => { results := [.lit (.bool true)], args := [d] }
  | _ => none }
def fnExactLetterIndexRow : OpenClaim := { program := "ytdhgmmgdblnciaa", sum := "eadf77b726767dd0e121d7d16c4339a4204e0d596666da72a760c513ababab2d", func := "loop.example/g00582/laws.FnExactLetterIndex", spec := "fnExactLetterIndex", inPlace := ["internal/bytealg.IndexByteString"], apart := false }
def FnExactLetterIndexSaid : Prop := fnExactLetterIndexRow.holds Try.pinned (OpenSpec.ofChange fnExactLetterIndexSpec)

/-- ITS FALSE NEIGHBOUR: 'it returns false'. Refute it at one input. -/
def fnExactLetterIndexWrong : ChangeSpec := { name := "fnExactLetterIndex", fn := fun _ => fun
  | [d] => { results := [.lit (.bool false)], args := [d] }
  | _ => none }
def FnExactLetterIndexWrongFalsely : Prop := fnExactLetterIndexRow.holds Try.pinned (OpenSpec.ofChange fnExactLetterIndexWrong)

/-- 'laws.FnExactCountByte': WHATEVER THE INPUT: true; the input reads as it did. -/
def fnExactCountByteSpec : ChangeSpec := { name := "fnExactCountByte", fn := fun _ => fun
  | [d1, d2] => { results := [.lit (.bool true)], args := [d1, d2] }
  | _ => none }
def fnExactCountByteRow : OpenClaim := { program := "ytdhgmmgdblnciaa", sum := "eadf77b726767dd0e121d7d16c4339a4204e0d596666da72a760c513ababab2d", func := "loop.example/g00582/laws.FnExactCountByte", spec := "fnExactCountByte", apart := false }
def FnExactCountByteSaid : Prop := fnExactCountByteRow.holds Try.pinned (OpenSpec.ofChange fnExactCountByteSpec)

/-- ITS FALSE NEIGHBOUR: 'it returns false'. Refute it at one input. -/
def fnExactCountByteWrong : ChangeSpec := { name := "fnExactCountByte", fn := fun _ => fun
  | [d1, d2] => { results := [.lit (.bool false)], args := [d1, d2] }
  | _ => none }
def FnExactCountByteWrongFalsely : Prop := fnExactCountByteRow.holds Try.pinned (OpenSpec.ofChange fnExactCountByteWrong)

/-- 'laws.FnExactCompareWords': WHATEVER THE INPUT: true; the input reads as it did. -/
def fnExactCompareWordsSpec : ChangeSpec := { name := "fnExactCompareWords", fn := fun _ => fun
  | [d1, d2] => { results := [.lit (.bool true)], args := [d1, d2] }
  | _ => none }
def fnExactCompareWordsRow : OpenClaim := { program := "ytdhgmmgdblnciaa", sum := "eadf77b726767dd0e121d7d16c4339a4204e0d596666da72a760c513ababab2d", func := "loop.example/g00582/laws.FnExactCompareWords", spec := "fnExactCompareWords", apart := false }
def FnExactCompareWordsSaid : Prop := fnExactCompareWordsRow.holds Try.pinned (OpenSpec.ofChange fnExactCompareWordsSpec)

/-- ITS FALSE NEIGHBOUR: 'it returns false'. Refute it at one input. -/
def fnExactCompareWordsWrong : ChangeSpec := { name := "fnExactCompareWords", fn := fun _ => fun
  | [d1, d2] => { results := [.lit (.bool false)], args := [d1, d2] }
  | _ => none }
def FnExactCompareWordsWrongFalsely : Prop := fnExactCompareWordsRow.holds Try.pinned (OpenSpec.ofChange fnExactCompareWordsWrong)

/-- 'laws.FnExactIsWord': WHATEVER THE INPUT: true; the input reads as it did. -/
def fnExactIsWordSpec : ChangeSpec := { name := "fnExactIsWord", fn := fun _ => fun
  | [d] => { results := [.lit (.bool true)], args := [d] }
  | _ => none }
def fnExactIsWordRow : OpenClaim := { program := "ytdhgmmgdblnciaa", sum := "eadf77b726767dd0e121d7d16c4339a4204e0d596666da72a760c513ababab2d", func := "loop.example/g00582/laws.FnExactIsWord", spec := "fnExactIsWord", inPlace := ["internal/bytealg.IndexByteString"], apart := false }
def FnExactIsWordSaid : Prop := fnExactIsWordRow.holds Try.pinned (OpenSpec.ofChange fnExactIsWordSpec)

/-- ITS FALSE NEIGHBOUR: 'it returns false'. Refute it at one input. -/
def fnExactIsWordWrong : ChangeSpec := { name := "fnExactIsWord", fn := fun _ => fun
  | [d] => { results := [.lit (.bool false)], args := [d] }
  | _ => none }
def FnExactIsWordWrongFalsely : Prop := fnExactIsWordRow.holds Try.pinned (OpenSpec.ofChange fnExactIsWordWrong)

/-- 'laws.FnExactSplitByte': WHATEVER THE INPUT: true; the input reads as it did. -/
def fnExactSplitByteSpec : ChangeSpec := { name := "fnExactSplitByte", fn := fun _ => fun
  | [d1, d2] => { results := [.lit (.bool true)], args := [d1, d2] }
  | _ => none }
def fnExactSplitByteRow : OpenClaim := { program := "ytdhgmmgdblnciaa", sum := "eadf77b726767dd0e121d7d16c4339a4204e0d596666da72a760c513ababab2d", func := "loop.example/g00582/laws.FnExactSplitByte", spec := "fnExactSplitByte", apart := false }
def FnExactSplitByteSaid : Prop := fnExactSplitByteRow.holds Try.pinned (OpenSpec.ofChange fnExactSplitByteSpec)

/-- ITS FALSE NEIGHBOUR: 'it returns false'. Refute it at one input. -/
def fnExactSplitByteWrong : ChangeSpec := { name := "fnExactSplitByte", fn := fun _ => fun
  | [d1, d2] => { results := [.lit (.bool false)], args := [d1, d2] }
  | _ => none }
def FnExactSplitByteWrongFalsely : Prop := fnExactSplitByteRow.holds Try.pinned (OpenSpec.ofChange fnExactSplitByteWrong)

/-- 'laws.FnExactParseNumber': WHATEVER THE INPUT: true; the input reads as it did. -/
def fnExactParseNumberSpec : ChangeSpec := { name := "fnExactParseNumber", fn := fun _ => fun
  | [d] => { results := [.lit (.bool true)], args := [d] }
  | _ => none }
def fnExactParseNumberRow : OpenClaim := { program := "ytdhgmmgdblnciaa", sum := "eadf77b726767dd0e121d7d16c4339a4204e0d596666da72a760c513ababab2d", func := "loop.example/g00582/laws.FnExactParseNumber", spec := "fnExactParseNumber", apart := false }
def FnExactParseNumberSaid : Prop := fnExactParseNumberRow.holds Try.pinned (OpenSpec.ofChange fnExactParseNumberSpec)

/-- ITS FALSE NEIGHBOUR: 'it returns false'. Refute it at one input. -/
def fnExactParseNumberWrong : ChangeSpec := { name := "fnExactParseNumber", fn := fun _ => fun
  | [d] => { results := [.lit (.bool false)], args := [d] }
  | _ => none }
def FnExactParseNumberWrongFalsely : Prop := fnExactParseNumberRow.holds Try.pinned (OpenSpec.ofChange fnExactParseNumberWrong)

/-- 'laws.FnExactNextWord': WHATEVER THE INPUT: true; the input reads as it did. -/
def fnExactNextWordSpec : ChangeSpec := { name := "fnExactNextWord", fn := fun _ => fun
  | [d] => { results := [.lit (.bool true)], args := [d] }
  | _ => none }
def fnExactNextWordRow : OpenClaim := { program := "ytdhgmmgdblnciaa", sum := "eadf77b726767dd0e121d7d16c4339a4204e0d596666da72a760c513ababab2d", func := "loop.example/g00582/laws.FnExactNextWord", spec := "fnExactNextWord", inPlace := ["internal/bytealg.IndexByteString"], apart := false }
def FnExactNextWordSaid : Prop := fnExactNextWordRow.holds Try.pinned (OpenSpec.ofChange fnExactNextWordSpec)

/-- ITS FALSE NEIGHBOUR: 'it returns false'. Refute it at one input. -/
def fnExactNextWordWrong : ChangeSpec := { name := "fnExactNextWord", fn := fun _ => fun
  | [d] => { results := [.lit (.bool false)], args := [d] }
  | _ => none }
def FnExactNextWordWrongFalsely : Prop := fnExactNextWordRow.holds Try.pinned (OpenSpec.ofChange fnExactNextWordWrong)

/-- 'laws.FnExactWordsOfLength': WHATEVER THE INPUT: true; the input reads as it did. -/
def fnExactWordsOfLengthSpec : ChangeSpec := { name := "fnExactWordsOfLength", fn := fun _ => fun
  | [d] => { results := [.lit (.bool true)], args := [d] }
  | _ => none }
def fnExactWordsOfLengthRow : OpenClaim := { program := "ytdhgmmgdblnciaa", sum := "eadf77b726767dd0e121d7d16c4339a4204e0d596666da72a760c513ababab2d", func := "loop.example/g00582/laws.FnExactWordsOfLength", spec := "fnExactWordsOfLength", apart := false }
def FnExactWordsOfLengthSaid : Prop := fnExactWordsOfLengthRow.holds Try.pinned (OpenSpec.ofChange fnExactWordsOfLengthSpec)

/-- ITS FALSE NEIGHBOUR: 'it returns false'. Refute it at one input. -/
def fnExactWordsOfLengthWrong : ChangeSpec := { name := "fnExactWordsOfLength", fn := fun _ => fun
  | [d] => { results := [.lit (.bool false)], args := [d] }
  | _ => none }
def FnExactWordsOfLengthWrongFalsely : Prop := fnExactWordsOfLengthRow.holds Try.pinned (OpenSpec.ofChange fnExactWordsOfLengthWrong)

/-- 'laws.FnExactParseInt': WHATEVER THE INPUT: true; the input reads as it did. -/
def fnExactParseIntSpec : ChangeSpec := { name := "fnExactParseInt", fn := fun _ => fun
  | [d] => { results := [.lit (.bool true)], args := [d] }
  | _ => none }
def fnExactParseIntRow : OpenClaim := { program := "ytdhgmmgdblnciaa", sum := "eadf77b726767dd0e121d7d16c4339a4204e0d596666da72a760c513ababab2d", func := "loop.example/g00582/laws.FnExactParseInt", spec := "fnExactParseInt", apart := false }
def FnExactParseIntSaid : Prop := fnExactParseIntRow.holds Try.pinned (OpenSpec.ofChange fnExactParseIntSpec)

/-- ITS FALSE NEIGHBOUR: 'it returns false'. Refute it at one input. -/
def fnExactParseIntWrong : ChangeSpec := { name := "fnExactParseInt", fn := fun _ => fun
  | [d] => { results := [.lit (.bool false)], args := [d] }
  | _ => none }
def FnExactParseIntWrongFalsely : Prop := fnExactParseIntRow.holds Try.pinned (OpenSpec.ofChange fnExactParseIntWrong)

/-- 'laws.FnExactWordsUpTo': WHATEVER THE INPUT: true; the input reads as it did. -/
def fnExactWordsUpToSpec : ChangeSpec := { name := "fnExactWordsUpTo", fn := fun _ => fun
  | [d] => { results := [.lit (.bool true)], args := [d] }
  | _ => none }
def fnExactWordsUpToRow : OpenClaim := { program := "ytdhgmmgdblnciaa", sum := "eadf77b726767dd0e121d7d16c4339a4204e0d596666da72a760c513ababab2d", func := "loop.example/g00582/laws.FnExactWordsUpTo", spec := "fnExactWordsUpTo", apart := false }
def FnExactWordsUpToSaid : Prop := fnExactWordsUpToRow.holds Try.pinned (OpenSpec.ofChange fnExactWordsUpToSpec)

/-- ITS FALSE NEIGHBOUR: 'it returns false'. Refute it at one input. -/
def fnExactWordsUpToWrong : ChangeSpec := { name := "fnExactWordsUpTo", fn := fun _ => fun
  | [d] => { results := [.lit (.bool false)], args := [d] }
  | _ => none }
def FnExactWordsUpToWrongFalsely : Prop := fnExactWordsUpToRow.holds Try.pinned (OpenSpec.ofChange fnExactWordsUpToWrong)

/-- 'laws.FnExactJoin': WHATEVER THE INPUT: true; the input reads as it did. -/
def fnExactJoinSpec : ChangeSpec := { name := "fnExactJoin", fn := fun _ => fun
  | [d1, d2] => { results := [.lit (.bool true)], args := [d1, d2] }
  | _ => none }
def fnExactJoinRow : OpenClaim := { program := "ytdhgmmgdblnciaa", sum := "eadf77b726767dd0e121d7d16c4339a4204e0d596666da72a760c513ababab2d", func := "loop.example/g00582/laws.FnExactJoin", spec := "fnExactJoin", inPlace := ["internal/abi.NoEscape", "internal/bytealg.MakeNoZero"], apart := false }
def FnExactJoinSaid : Prop := fnExactJoinRow.holds Try.pinned (OpenSpec.ofChange fnExactJoinSpec)

/-- ITS FALSE NEIGHBOUR: 'it returns false'. Refute it at one input. -/
def fnExactJoinWrong : ChangeSpec := { name := "fnExactJoin", fn := fun _ => fun
  | [d1, d2] => { results := [.lit (.bool false)], args := [d1, d2] }
  | _ => none }
def FnExactJoinWrongFalsely : Prop := fnExactJoinRow.holds Try.pinned (OpenSpec.ofChange fnExactJoinWrong)

/- THE SECOND FORM. 'bulk': how many values and letters a reading holds, each counted each time it is reached (what is shared counts as often as it is met; a slice's spare places count too). A statement '..UptoSaid' is the law's where the arguments, and the package variables that the reading takes, are together of bulk at most 1048576: NARROWER than '..Said'. Prove '..Said' where nothing that the law and all that it calls make is longer than what came in: it says more and counts as full. Else prove '..UptoSaid'. A law counts once. -/
mutual
def uptoBulk {H : Type} : DataW H → Nat
  | .lit (.string bytes) => bytes.length + 1
  | .lit _ => 1
  | .nil => 1
  | .ptr d => uptoBulk d + 1
  | .slice elems spare => uptoBulkAll elems + uptoBulkAll spare + 1
  | .agg parts => uptoBulkAll parts + 1
  | .iface _ d => uptoBulk d + 1
  | .map entries => uptoBulkEntries entries + 1
  | .held _ => 1
def uptoBulkAll {H : Type} : List (DataW H) → Nat
  | [] => 0
  | d :: r => uptoBulk d + uptoBulkAll r
def uptoBulkEntries {H : Type} : List (Lit × DataW H) → Nat
  | [] => 0
  | x :: r => uptoBulkEntry x + uptoBulkEntries r
def uptoBulkEntry {H : Type} : Lit × DataW H → Nat
  | (.string bytes, d) => bytes.length + uptoBulk d + 1
  | (_, d) => uptoBulk d + 1
 end
def uptoSmall : (H : Type) → List (DataW H) → Bool := fun _ ds => decide (uptoBulkAll ds ≤ 1048576)
def OpenSpec.upto (s : _root_.Go.ChangeSpec) : _root_.Go.OpenSpec := { _root_.Go.OpenSpec.ofChange s with cond := some uptoSmall }

/-- 'laws.FnExactConstants', WHERE WHAT IT READS IS OF BULK AT MOST 1048576: true; the input reads as it did. -/
def fnExactConstantsUptoRow : OpenClaim := { program := "ytdhgmmgdblnciaa", sum := "eadf77b726767dd0e121d7d16c4339a4204e0d596666da72a760c513ababab2d", func := "loop.example/g00582/laws.FnExactConstants", spec := "fnExactConstants", apart := false, narrowed := true }
def FnExactConstantsUptoSaid : Prop := fnExactConstantsUptoRow.holds Try.pinned (OpenSpec.upto fnExactConstantsSpec)

/-- 'laws.FnExactLetterIndex', WHERE WHAT IT READS IS OF BULK AT MOST 1048576: true; the input reads as it did. -/
def fnExactLetterIndexUptoRow : OpenClaim := { program := "ytdhgmmgdblnciaa", sum := "eadf77b726767dd0e121d7d16c4339a4204e0d596666da72a760c513ababab2d", func := "loop.example/g00582/laws.FnExactLetterIndex", spec := "fnExactLetterIndex", inPlace := ["internal/bytealg.IndexByteString"], apart := false, narrowed := true }
def FnExactLetterIndexUptoSaid : Prop := fnExactLetterIndexUptoRow.holds Try.pinned (OpenSpec.upto fnExactLetterIndexSpec)

/-- 'laws.FnExactCountByte', WHERE WHAT IT READS IS OF BULK AT MOST 1048576: true; the input reads as it did. -/
def fnExactCountByteUptoRow : OpenClaim := { program := "ytdhgmmgdblnciaa", sum := "eadf77b726767dd0e121d7d16c4339a4204e0d596666da72a760c513ababab2d", func := "loop.example/g00582/laws.FnExactCountByte", spec := "fnExactCountByte", apart := false, narrowed := true }
def FnExactCountByteUptoSaid : Prop := fnExactCountByteUptoRow.holds Try.pinned (OpenSpec.upto fnExactCountByteSpec)

/-- 'laws.FnExactCompareWords', WHERE WHAT IT READS IS OF BULK AT MOST 1048576: true; the input reads as it did. -/
def fnExactCompareWordsUptoRow : OpenClaim := { program := "ytdhgmmgdblnciaa", sum := "eadf77b726767dd0e121d7d16c4339a4204e0d596666da72a760c513ababab2d", func := "loop.example/g00582/laws.FnExactCompareWords", spec := "fnExactCompareWords", apart := false, narrowed := true }
def FnExactCompareWordsUptoSaid : Prop := fnExactCompareWordsUptoRow.holds Try.pinned (OpenSpec.upto fnExactCompareWordsSpec)

/-- 'laws.FnExactIsWord', WHERE WHAT IT READS IS OF BULK AT MOST 1048576: true; the input reads as it did. -/
def fnExactIsWordUptoRow : OpenClaim := { program := "ytdhgmmgdblnciaa", sum := "eadf77b726767dd0e121d7d16c4339a4204e0d596666da72a760c513ababab2d", func := "loop.example/g00582/laws.FnExactIsWord", spec := "fnExactIsWord", inPlace := ["internal/bytealg.IndexByteString"], apart := false, narrowed := true }
def FnExactIsWordUptoSaid : Prop := fnExactIsWordUptoRow.holds Try.pinned (OpenSpec.upto fnExactIsWordSpec)

/-- 'laws.FnExactSplitByte', WHERE WHAT IT READS IS OF BULK AT MOST 1048576: true; the input reads as it did. -/
def fnExactSplitByteUptoRow : OpenClaim := { program := "ytdhgmmgdblnciaa", sum := "eadf77b726767dd0e121d7d16c4339a4204e0d596666da72a760c513ababab2d", func := "loop.example/g00582/laws.FnExactSplitByte", spec := "fnExactSplitByte", apart := false, narrowed := true }
def FnExactSplitByteUptoSaid : Prop := fnExactSplitByteUptoRow.holds Try.pinned (OpenSpec.upto fnExactSplitByteSpec)

/-- 'laws.FnExactParseNumber', WHERE WHAT IT READS IS OF BULK AT MOST 1048576: true; the input reads as it did. -/
def fnExactParseNumberUptoRow : OpenClaim := { program := "ytdhgmmgdblnciaa", sum := "eadf77b726767dd0e121d7d16c4339a4204e0d596666da72a760c513ababab2d", func := "loop.example/g00582/laws.FnExactParseNumber", spec := "fnExactParseNumber", apart := false, narrowed := true }
def FnExactParseNumberUptoSaid : Prop := fnExactParseNumberUptoRow.holds Try.pinned (OpenSpec.upto fnExactParseNumberSpec)

/-- 'laws.FnExactNextWord', WHERE WHAT IT READS IS OF BULK AT MOST 1048576: true; the input reads as it did. -/
def fnExactNextWordUptoRow : OpenClaim := { program := "ytdhgmmgdblnciaa", sum := "eadf77b726767dd0e121d7d16c4339a4204e0d596666da72a760c513ababab2d", func := "loop.example/g00582/laws.FnExactNextWord", spec := "fnExactNextWord", inPlace := ["internal/bytealg.IndexByteString"], apart := false, narrowed := true }
def FnExactNextWordUptoSaid : Prop := fnExactNextWordUptoRow.holds Try.pinned (OpenSpec.upto fnExactNextWordSpec)

/-- 'laws.FnExactWordsOfLength', WHERE WHAT IT READS IS OF BULK AT MOST 1048576: true; the input reads as it did. -/
def fnExactWordsOfLengthUptoRow : OpenClaim := { program := "ytdhgmmgdblnciaa", sum := "eadf77b726767dd0e121d7d16c4339a4204e0d596666da72a760c513ababab2d", func := "loop.example/g00582/laws.FnExactWordsOfLength", spec := "fnExactWordsOfLength", apart := false, narrowed := true }
def FnExactWordsOfLengthUptoSaid : Prop := fnExactWordsOfLengthUptoRow.holds Try.pinned (OpenSpec.upto fnExactWordsOfLengthSpec)

/-- 'laws.FnExactParseInt', WHERE WHAT IT READS IS OF BULK AT MOST 1048576: true; the input reads as it did. -/
def fnExactParseIntUptoRow : OpenClaim := { program := "ytdhgmmgdblnciaa", sum := "eadf77b726767dd0e121d7d16c4339a4204e0d596666da72a760c513ababab2d", func := "loop.example/g00582/laws.FnExactParseInt", spec := "fnExactParseInt", apart := false, narrowed := true }
def FnExactParseIntUptoSaid : Prop := fnExactParseIntUptoRow.holds Try.pinned (OpenSpec.upto fnExactParseIntSpec)

/-- 'laws.FnExactWordsUpTo', WHERE WHAT IT READS IS OF BULK AT MOST 1048576: true; the input reads as it did. -/
def fnExactWordsUpToUptoRow : OpenClaim := { program := "ytdhgmmgdblnciaa", sum := "eadf77b726767dd0e121d7d16c4339a4204e0d596666da72a760c513ababab2d", func := "loop.example/g00582/laws.FnExactWordsUpTo", spec := "fnExactWordsUpTo", apart := false, narrowed := true }
def FnExactWordsUpToUptoSaid : Prop := fnExactWordsUpToUptoRow.holds Try.pinned (OpenSpec.upto fnExactWordsUpToSpec)

/-- 'laws.FnExactJoin', WHERE WHAT IT READS IS OF BULK AT MOST 1048576: true; the input reads as it did. -/
def fnExactJoinUptoRow : OpenClaim := { program := "ytdhgmmgdblnciaa", sum := "eadf77b726767dd0e121d7d16c4339a4204e0d596666da72a760c513ababab2d", func := "loop.example/g00582/laws.FnExactJoin", spec := "fnExactJoin", inPlace := ["internal/abi.NoEscape", "internal/bytealg.MakeNoZero"], apart := false, narrowed := true }
def FnExactJoinUptoSaid : Prop := fnExactJoinUptoRow.holds Try.pinned (OpenSpec.upto fnExactJoinSpec)

end Rows
end Go.Proofs.Ytdhgmmgdblnciaa
