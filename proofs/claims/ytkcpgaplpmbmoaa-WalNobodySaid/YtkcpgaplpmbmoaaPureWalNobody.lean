/- WalNobody: proved for all arguments; no condition. -/
import Derived.Test.YtkcpgaplpmbmoaaPAx18
namespace Go.Proofs.Ytkcpgaplpmbmoaa.Pure
open Go.RowKit Go.Proofs.Ytkcpgaplpmbmoaa.PA Go.Proofs.YtkcpgaplpmbmoaaW.PrintWords
set_option linter.unusedVariables false

theorem WalNobody : ententelaw17_WalNobody.Pure := by
  intro a0 h
  exact ⟨0, rfl⟩

end Go.Proofs.Ytkcpgaplpmbmoaa.Pure
