-- Written by a program of this session (wip/tools/mp.py over the kit's printer); Lean checks it.
import Derived.Test.YtaokeicmaflilaaProg
import Derived.Below
import Derived.Deep.Draws
import Derived.Deep.AppendLies
import Derived.Maps.AppendAt
import Derived.OwnWalk
import Derived.Laws.BytesArg
import Derived.Laws.MakeOwn
import Derived.Laws.OwnMore
import Derived.Deep.OwnRows
import Derived.Tactics
import Derived.Lib.ConvBytes
import Derived.Laws.Slices
import Derived.WalkKit
import Derived.KernelRfl
import Derived.RowKit3
import Derived.Deep.LoopGhost
import Derived.Deep.QuietTactic
import Derived.BigQuiet
import Derived.WideLaws
import Derived.Deep.DeepCutAuto
import Derived.Deep.CutBlock
import Derived.Deep.RegionHeld3
import Derived.Laws.Rows
import Derived.Lib.AppendStr
import Derived.ArgAppend
import Derived.Laws.IdiomCopy
import Derived.OrdersHeld
import Derived.Laws.BitsLemmas
import Derived.RowKit
import Derived.Test.YtaokeicmaflilaaWWords
import Derived.Test.YtaokeicmaflilaaWLast
import Derived.Test.YtaokeicmaflilaaWTab
import Derived.Test.YtaokeicmaflilaaWFour
import Derived.Test.YtaokeicmaflilaaWQPut
import Derived.Test.YtaokeicmaflilaaWApart
import Derived.Test.YtaokeicmaflilaaWArr
import Derived.Test.YtaokeicmaflilaaWZeros
import Derived.Test.YtaokeicmaflilaaWFoot
import Derived.Test.YtaokeicmaflilaaWKept
import Derived.Test.YtaokeicmaflilaaWShare
import Derived.Test.YtaokeicmaflilaaWN
import Derived.Test.YtaokeicmaflilaaWFootNe
import Derived.Test.YtaokeicmaflilaaWAt
import Derived.Test.YtaokeicmaflilaaWEqStruct
import Derived.Test.YtaokeicmaflilaaWRepsOne
import Derived.Test.YtaokeicmaflilaaWInv
import Derived.Test.YtaokeicmaflilaaWInvWords
import Derived.Test.YtaokeicmaflilaaWGuard
import Derived.Test.YtaokeicmaflilaaWNEv
import Derived.Test.YtaokeicmaflilaaWMore
namespace Go.Proofs.Ytaokeicmaflilaa.PA
open Go.RowKit Go.Proofs.YtaokeicmaflilaaW.PrintWords Go.Proofs.YtaokeicmaflilaaW.PrintLast Go.Proofs.YtaokeicmaflilaaW.PrintMore
attribute [local go_sem] max2_int min2_int max_two min_two max_three min_three max_four min_four   -- for this text's walks alone
set_option linter.unusedVariables false
set_option linter.unusedSimpArgs false



def errW : Option Int → Value
  | none => .nilIface
  | some c => .iface 0 (.int .i64 c)
theorem errW_none : errW none = .nilIface := rfl
theorem errW_some (c : Int) : errW (some c) = .iface 0 (.int .i64 c) := rfl

theorem info3 : (Try.prog.info? 3).map (fun i => (i.zero, i.size, i.bytes)) = some (some (.int .i64 0), 1, 8) := by kernel_rfl
-- the values' own types

end Go.Proofs.Ytaokeicmaflilaa.PA
