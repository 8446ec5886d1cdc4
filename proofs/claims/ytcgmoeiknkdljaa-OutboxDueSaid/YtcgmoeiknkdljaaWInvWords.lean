-- Of the words that the kit's printer lays for a claim, those that this claim's texts name (wip/tools/prune.py of this session's repo); Lean checks them.
import Derived.Test.YtcgmoeiknkdljaaWInv
import Derived.Test.YtcgmoeiknkdljaaWFootNe
namespace Go.Proofs.YtcgmoeiknkdljaaW.PrintWords
open Go.RowKit
end Go.Proofs.YtcgmoeiknkdljaaW.PrintWords
namespace Go.Proofs.YtcgmoeiknkdljaaW.PrintLast
section
variable {ops : Array Oper} {a : Act} {o og : Oper} {g : Nat} {t : Tmp} {u : Bool}
end
end Go.Proofs.YtcgmoeiknkdljaaW.PrintLast
