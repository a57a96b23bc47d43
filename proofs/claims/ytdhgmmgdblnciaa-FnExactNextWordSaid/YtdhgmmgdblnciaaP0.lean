-- Written by gen.py of this repo (a driver of the kit's print) for seat Ytdhgmmgdblnciaa.
import Derived.Test.YtdhgmmgdblnciaaProg
import Derived.Below
import Derived.Deep.Draws
import Derived.Deep.AppendLies
import Derived.Maps.AppendAt
import Derived.OwnWalk
import Derived.Laws.BytesArg
import Derived.Laws.MakeOwn
import Derived.Laws.OwnMore
import Derived.Deep.OwnRows
import Derived.Tactics
import Derived.Lib.ConvBytes
import Derived.Laws.Slices
import Derived.WalkKit
import Derived.KernelRfl
import Derived.RowKit3
import Derived.Deep.LoopGhost
import Derived.Deep.QuietTactic
import Derived.BigQuiet
import Derived.WideLaws
import Derived.Deep.DeepCutAuto
import Derived.Deep.CutBlock
import Derived.Deep.RegionHeld3
import Derived.Laws.Rows
import Derived.Lib.AppendStr
import Derived.ArgAppend
import Derived.Laws.IdiomCopy
import Derived.OrdersHeld
import Derived.Laws.BitsLemmas
import Derived.RowKit
import Derived.Test.YtdhgmmgdblnciaaWWords
import Derived.Test.YtdhgmmgdblnciaaWLast
import Derived.Test.YtdhgmmgdblnciaaWTab
import Derived.Test.YtdhgmmgdblnciaaWFour
import Derived.Test.YtdhgmmgdblnciaaWQPut
import Derived.Test.YtdhgmmgdblnciaaWApart
import Derived.Test.YtdhgmmgdblnciaaWArr
import Derived.Test.YtdhgmmgdblnciaaWZeros
import Derived.Test.YtdhgmmgdblnciaaWFoot
import Derived.Test.YtdhgmmgdblnciaaWKept
import Derived.Test.YtdhgmmgdblnciaaWShare
import Derived.Test.YtdhgmmgdblnciaaWN
import Derived.Test.YtdhgmmgdblnciaaWFootNe
import Derived.Test.YtdhgmmgdblnciaaWAt
import Derived.Test.YtdhgmmgdblnciaaWEqStruct
import Derived.Test.YtdhgmmgdblnciaaWRepsOne
import Derived.Test.YtdhgmmgdblnciaaWInv
import Derived.Test.YtdhgmmgdblnciaaWInvWords
import Derived.Test.YtdhgmmgdblnciaaWGuard
import Derived.Test.YtdhgmmgdblnciaaWNEv
import Derived.Test.YtdhgmmgdblnciaaWMore
namespace Go.Proofs.Ytdhgmmgdblnciaa.P
open Go.RowKit Go.Proofs.YtdhgmmgdblnciaaW.PrintWords Go.Proofs.YtdhgmmgdblnciaaW.PrintLast Go.Proofs.YtdhgmmgdblnciaaW.PrintMore
attribute [local go_sem] max2_int min2_int max_two min_two max_three min_three max_four min_four   -- for this text's walks alone
set_option linter.unusedVariables false
set_option linter.unusedSimpArgs false



def errW : Option Int → Value
  | none => .nilIface
  | some c => .iface 0 (.int .i64 c)
theorem errW_none : errW none = .nilIface := rfl
theorem errW_some (c : Int) : errW (some c) = .iface 0 (.int .i64 c) := rfl

theorem info5 : (Try.prog.info? 5).map (fun i => (i.zero, i.size, i.bytes)) = some (some (.int .u8 0), 1, 1) := by kernel_rfl
theorem info9 : (Try.prog.info? 9).map (fun i => (i.zero, i.size, i.bytes)) = some (some (.string ⟨#[]⟩), 1, 16) := by kernel_rfl
-- the values' own types

end Go.Proofs.Ytdhgmmgdblnciaa.P
