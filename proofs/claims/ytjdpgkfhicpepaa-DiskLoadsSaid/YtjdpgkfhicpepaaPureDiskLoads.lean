/- DiskLoads: proved for all arguments; no condition. -/
import Derived.Test.YtjdpgkfhicpepaaPAx18
namespace Go.Proofs.Ytjdpgkfhicpepaa.Pure
open Go.RowKit Go.Proofs.Ytjdpgkfhicpepaa.PA Go.Proofs.YtjdpgkfhicpepaaW.PrintWords
set_option linter.unusedVariables false

theorem DiskLoads : ententelaw15_DiskLoads.Pure := by
  intro a0 l1 l2 h0 h1 h2
  refine ⟨0, ?_⟩
  unfold ententelaw15_DiskLoads.f
  rw [if_pos ⟨h1.2.2, h2.2.2, by omega⟩]

end Go.Proofs.Ytjdpgkfhicpepaa.Pure
