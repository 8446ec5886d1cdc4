/- WalReads: proved for all arguments; no condition. -/
import Derived.Test.YtkcpgaplpmbmoaaGreatPAx26
namespace Go.Proofs.YtkcpgaplpmbmoaaGreat.Pure
open Go.RowKit Go.Proofs.YtkcpgaplpmbmoaaGreat.PA Go.Proofs.YtkcpgaplpmbmoaaGreatW.PrintWords
set_option linter.unusedVariables false

theorem WalReads : ententelaw17_WalReads.Pure := by
  intro l0 a1 h0 h1
  refine ⟨0, ?_⟩
  unfold ententelaw17_WalReads.f
  rw [if_pos ⟨h0.2.2, by omega, h1⟩]

end Go.Proofs.YtkcpgaplpmbmoaaGreat.Pure
