/- DiskPrefix: proved for all arguments; no condition. -/
import Derived.Test.YtjdpgkfhicpepaaPAx10
namespace Go.Proofs.Ytjdpgkfhicpepaa.Pure
open Go.RowKit Go.Proofs.Ytjdpgkfhicpepaa.PA Go.Proofs.YtjdpgkfhicpepaaW.PrintWords
set_option linter.unusedVariables false

theorem DiskPrefix : ententelaw15_DiskPrefix.Pure := by
  intro a0 l1 l2 h0 h1 h2
  refine ⟨0, ?_⟩
  unfold ententelaw15_DiskPrefix.f
  rw [if_pos ⟨h1.2.2, by omega⟩]

end Go.Proofs.Ytjdpgkfhicpepaa.Pure
