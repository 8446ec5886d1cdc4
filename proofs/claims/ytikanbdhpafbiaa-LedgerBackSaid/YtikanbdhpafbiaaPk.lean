/- A law of this session's own: the end of a body, laid aside. -/
import Derived.Test.YtikanbdhpafbiaaMy
import Derived.Test.YtikanbdhpafbiaaWTab
import Derived.Test.YtikanbdhpafbiaaWLast
namespace Go.Proofs.Ytikanbdhpafbiaa.My
open Go.RowKit Go.Proofs.YtikanbdhpafbiaaW.PrintWords Go.Proofs.YtikanbdhpafbiaaW.PrintLast
/-- The end of a body, laid aside, so that the walk does not try it. -/
theorem park_ {P : Program} {fn : Func} {R : Ending → World → Prop} {e : Exit} {a : Act} {w : World} (h : ∀ X : Prop, Aside0 (X = bodyPost P fn R e a w) → X) : bodyPost P fn R e a w := h _ ⟨rfl⟩
end Go.Proofs.Ytikanbdhpafbiaa.My
