-- Written by wip/xprint.py (the kit's printer with hooks) out of the translation; Lean checks it.
import Derived.Test.YtikldgckdlnkpaaProg
import Derived.Below
import Derived.Deep.Draws
import Derived.Deep.AppendLies
import Derived.Maps.AppendAt
import Derived.OwnWalk
import Derived.Laws.BytesArg
import Derived.Laws.MakeOwn
import Derived.Laws.OwnMore
import Derived.Deep.OwnRows
import Derived.Tactics
import Derived.Lib.ConvBytes
import Derived.Laws.Slices
import Derived.WalkKit
import Derived.KernelRfl
import Derived.RowKit3
import Derived.Deep.LoopGhost
import Derived.Deep.QuietTactic
import Derived.BigQuiet
import Derived.WideLaws
import Derived.Deep.DeepCutAuto
import Derived.Deep.CutBlock
import Derived.Deep.RegionHeld3
import Derived.Laws.Rows
import Derived.Lib.AppendStr
import Derived.ArgAppend
import Derived.Laws.IdiomCopy
import Derived.OrdersHeld
import Derived.Laws.BitsLemmas
import Derived.RowKit
import Derived.Test.YtikldgckdlnkpaaWWords
import Derived.Test.YtikldgckdlnkpaaWLast
import Derived.Test.YtikldgckdlnkpaaWTab
import Derived.Test.YtikldgckdlnkpaaWFour
import Derived.Test.YtikldgckdlnkpaaWQPut
import Derived.Test.YtikldgckdlnkpaaWApart
import Derived.Test.YtikldgckdlnkpaaWArr
import Derived.Test.YtikldgckdlnkpaaWZeros
import Derived.Test.YtikldgckdlnkpaaWFoot
import Derived.Test.YtikldgckdlnkpaaWKept
import Derived.Test.YtikldgckdlnkpaaWShare
import Derived.Test.YtikldgckdlnkpaaWN
import Derived.Test.YtikldgckdlnkpaaWFootNe
import Derived.Test.YtikldgckdlnkpaaWAt
import Derived.Test.YtikldgckdlnkpaaWEqStruct
import Derived.Test.YtikldgckdlnkpaaWRepsOne
import Derived.Test.YtikldgckdlnkpaaWInv
import Derived.Test.YtikldgckdlnkpaaWInvWords
import Derived.Test.YtikldgckdlnkpaaWGuard
import Derived.Test.YtikldgckdlnkpaaWNEv
import Derived.Test.YtikldgckdlnkpaaWMore
namespace Go.Proofs.Ytikldgckdlnkpaa.U
open Go.RowKit Go.Proofs.YtikldgckdlnkpaaW.PrintWords Go.Proofs.YtikldgckdlnkpaaW.PrintLast Go.Proofs.YtikldgckdlnkpaaW.PrintMore
attribute [local go_sem] max2_int min2_int max_two min_two max_three min_three max_four min_four   -- for this text's walks alone
set_option linter.unusedVariables false
set_option linter.unusedSimpArgs false



def errW : Option Int → Value
  | none => .nilIface
  | some c => .iface 0 (.int .i64 c)
theorem errW_none : errW none = .nilIface := rfl
theorem errW_some (c : Int) : errW (some c) = .iface 0 (.int .i64 c) := rfl

-- the values' own types

end Go.Proofs.Ytikldgckdlnkpaa.U
