/- WalCrash: proved for all arguments; no condition. -/
import Derived.Test.YtkcpgaplpmbmoaaPAx22
namespace Go.Proofs.Ytkcpgaplpmbmoaa.Pure
open Go.RowKit Go.Proofs.Ytkcpgaplpmbmoaa.PA Go.Proofs.YtkcpgaplpmbmoaaW.PrintWords
set_option linter.unusedVariables false

theorem WalCrash : ententelaw17_WalCrash.Pure := by
  intro a0 a1 l2 h0 h1 h2
  refine ⟨0, ?_⟩
  unfold ententelaw17_WalCrash.f
  rw [if_pos ⟨h1, by omega, h2.2.2⟩]

end Go.Proofs.Ytkcpgaplpmbmoaa.Pure
