-- Of the words that the kit's printer lays for a claim, those that this claim's texts name (wip/tools/prune.py of this session's repo); Lean checks them.
import Derived.Test.YtmfpgjpekmaemaaWInv
import Derived.Test.YtmfpgjpekmaemaaWFootNe
namespace Go.Proofs.YtmfpgjpekmaemaaW.PrintWords
open Go.RowKit
end Go.Proofs.YtmfpgjpekmaemaaW.PrintWords
namespace Go.Proofs.YtmfpgjpekmaemaaW.PrintLast
section
variable {ops : Array Oper} {a : Act} {o og : Oper} {g : Nat} {t : Tmp} {u : Bool}
end
end Go.Proofs.YtmfpgjpekmaemaaW.PrintLast
