-- Of the words that the kit's printer lays for a claim, those that this claim's texts name (wip/tools/prune.py of this session's repo); Lean checks them.
import Derived.Test.YtkcpgaplpmbmoaaGreatWInv
import Derived.Test.YtkcpgaplpmbmoaaGreatWFootNe
namespace Go.Proofs.YtkcpgaplpmbmoaaGreatW.PrintWords
open Go.RowKit
end Go.Proofs.YtkcpgaplpmbmoaaGreatW.PrintWords
namespace Go.Proofs.YtkcpgaplpmbmoaaGreatW.PrintLast
section
variable {ops : Array Oper} {a : Act} {o og : Oper} {g : Nat} {t : Tmp} {u : Bool}
end
end Go.Proofs.YtkcpgaplpmbmoaaGreatW.PrintLast
