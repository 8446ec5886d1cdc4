-- Of the words that the kit's printer lays for a claim, those that this claim's texts name (wip/tools/prune.py of this session's repo); Lean checks them.
import Derived.Test.YtikanbdhpafbiaaWInv
import Derived.Test.YtikanbdhpafbiaaWFootNe
namespace Go.Proofs.YtikanbdhpafbiaaW.PrintWords
open Go.RowKit
end Go.Proofs.YtikanbdhpafbiaaW.PrintWords
namespace Go.Proofs.YtikanbdhpafbiaaW.PrintLast
section
variable {ops : Array Oper} {a : Act} {o og : Oper} {g : Nat} {t : Tmp} {u : Bool}
end
end Go.Proofs.YtikanbdhpafbiaaW.PrintLast
