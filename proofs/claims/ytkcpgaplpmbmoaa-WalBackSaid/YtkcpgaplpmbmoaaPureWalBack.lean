/- WalBack: proved for all arguments; no condition. -/
import Derived.Test.YtkcpgaplpmbmoaaPAx21
namespace Go.Proofs.Ytkcpgaplpmbmoaa.Pure
open Go.RowKit Go.Proofs.Ytkcpgaplpmbmoaa.PA Go.Proofs.YtkcpgaplpmbmoaaW.PrintWords
set_option linter.unusedVariables false

theorem WalBack : ententelaw17_WalBack.Pure := by
  intro a0 l1 l2 h0 h1 h2
  refine ⟨0, ?_⟩
  unfold ententelaw17_WalBack.f
  rw [if_pos ⟨h0, h1.2.2⟩]

end Go.Proofs.Ytkcpgaplpmbmoaa.Pure
