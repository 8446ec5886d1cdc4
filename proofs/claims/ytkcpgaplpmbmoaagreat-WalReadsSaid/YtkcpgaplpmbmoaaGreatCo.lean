/- A law of this session's own: a cell of a row of the call's own, where a row of another type is appended to. -/
import Derived.Test.YtkcpgaplpmbmoaaGreatMy
import Derived.Test.YtkcpgaplpmbmoaaGreatWMore
namespace Go.Proofs.YtkcpgaplpmbmoaaGreat.My
open Go.RowKit Go.Proofs.YtkcpgaplpmbmoaaGreatW.PrintWords Go.Proofs.YtkcpgaplpmbmoaaGreatW.PrintLast
set_option linter.unusedVariables false
end Go.Proofs.YtkcpgaplpmbmoaaGreat.My
