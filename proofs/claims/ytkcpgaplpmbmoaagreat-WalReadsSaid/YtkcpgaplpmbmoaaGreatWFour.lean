-- Of the words that the kit's printer lays for a claim, those that this claim's texts name (wip/tools/prune.py of this session's repo); Lean checks them.
import Derived.Test.YtkcpgaplpmbmoaaGreatWTab
/-! ### 56. Four, five, six operations that may come up next, in any order -/
namespace Go.Proofs.YtkcpgaplpmbmoaaGreatW.PrintLast
section
variable {P : Program} {ops : Array Oper} {Q : Exit → Act → World → Prop} {md : Region.Mode} {S : World → Prop} {ds : List Nat} {T : Bool × List (List Nat × List Nat)}
end
end Go.Proofs.YtkcpgaplpmbmoaaGreatW.PrintLast
