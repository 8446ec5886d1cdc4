/- Laws of this session's own: copies of elements of any size; slices.Insert of one element into a row of the call's own. -/
import Derived.Test.YtcgmoeiknkdljaaMy
import Derived.Test.YtcgmoeiknkdljaaWMore
import Derived.Laws.CopyOwn
import Derived.Lib.AppendZerosOnto
import Derived.Lib.AppendZeros
import Derived.Lib.Overlaps
namespace Go.Proofs.Ytcgmoeiknkdljaa.My
open Go.RowKit Go.Proofs.YtcgmoeiknkdljaaW.PrintWords Go.Proofs.YtcgmoeiknkdljaaW.PrintLast
set_option linter.unusedVariables false
set_option linter.unusedSimpArgs false
variable {P : Program}
end Go.Proofs.Ytcgmoeiknkdljaa.My
