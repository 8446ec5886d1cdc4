-- Written by a program of this session (wip/tools/mp.py over the kit's printer); Lean checks it.
import Derived.Test.YtfjlodknogiipaaProg
import Derived.Below
import Derived.Deep.Draws
import Derived.Deep.AppendLies
import Derived.Maps.AppendAt
import Derived.OwnWalk
import Derived.Laws.BytesArg
import Derived.Laws.MakeOwn
import Derived.Laws.OwnMore
import Derived.Deep.OwnRows
import Derived.Tactics
import Derived.Lib.ConvBytes
import Derived.Laws.Slices
import Derived.WalkKit
import Derived.KernelRfl
import Derived.RowKit3
import Derived.Deep.LoopGhost
import Derived.Deep.QuietTactic
import Derived.BigQuiet
import Derived.WideLaws
import Derived.Deep.DeepCutAuto
import Derived.Deep.CutBlock
import Derived.Deep.RegionHeld3
import Derived.Laws.Rows
import Derived.Lib.AppendStr
import Derived.ArgAppend
import Derived.Laws.IdiomCopy
import Derived.OrdersHeld
import Derived.Laws.BitsLemmas
import Derived.RowKit
import Derived.Test.YtfjlodknogiipaaWWords
import Derived.Test.YtfjlodknogiipaaWLast
import Derived.Test.YtfjlodknogiipaaWTab
import Derived.Test.YtfjlodknogiipaaWFour
import Derived.Test.YtfjlodknogiipaaWQPut
import Derived.Test.YtfjlodknogiipaaWApart
import Derived.Test.YtfjlodknogiipaaWArr
import Derived.Test.YtfjlodknogiipaaWZeros
import Derived.Test.YtfjlodknogiipaaWFoot
import Derived.Test.YtfjlodknogiipaaWKept
import Derived.Test.YtfjlodknogiipaaWShare
import Derived.Test.YtfjlodknogiipaaWN
import Derived.Test.YtfjlodknogiipaaWFootNe
import Derived.Test.YtfjlodknogiipaaWAt
import Derived.Test.YtfjlodknogiipaaWEqStruct
import Derived.Test.YtfjlodknogiipaaWRepsOne
import Derived.Test.YtfjlodknogiipaaWInv
import Derived.Test.YtfjlodknogiipaaWInvWords
import Derived.Test.YtfjlodknogiipaaWGuard
import Derived.Test.YtfjlodknogiipaaWNEv
import Derived.Test.YtfjlodknogiipaaWMore
namespace Go.Proofs.Ytfjlodknogiipaa.PA
open Go.RowKit Go.Proofs.YtfjlodknogiipaaW.PrintWords Go.Proofs.YtfjlodknogiipaaW.PrintLast Go.Proofs.YtfjlodknogiipaaW.PrintMore
attribute [local go_sem] max2_int min2_int max_two min_two max_three min_three max_four min_four   -- for this text's walks alone
set_option linter.unusedVariables false
set_option linter.unusedSimpArgs false



def errW : Option Int → Value
  | none => .nilIface
  | some c => .iface 0 (.int .i64 c)
theorem errW_none : errW none = .nilIface := rfl
theorem errW_some (c : Int) : errW (some c) = .iface 0 (.int .i64 c) := rfl

-- the values' own types

end Go.Proofs.Ytfjlodknogiipaa.PA
