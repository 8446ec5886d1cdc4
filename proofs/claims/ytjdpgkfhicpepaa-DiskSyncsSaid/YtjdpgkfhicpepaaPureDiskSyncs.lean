/- DiskSyncs: proved for all arguments; no condition. -/
import Derived.Test.YtjdpgkfhicpepaaPAx11
namespace Go.Proofs.Ytjdpgkfhicpepaa.Pure
open Go.RowKit Go.Proofs.Ytjdpgkfhicpepaa.PA Go.Proofs.YtjdpgkfhicpepaaW.PrintWords
set_option linter.unusedVariables false

theorem DiskSyncs : ententelaw15_DiskSyncs.Pure := by
  intro l0 l1 a2 h0 h1 h2
  refine ⟨0, ?_⟩
  unfold ententelaw15_DiskSyncs.f
  rw [if_pos ⟨⟨h0.2.2, by omega⟩, h1.2.2, by omega⟩]

end Go.Proofs.Ytjdpgkfhicpepaa.Pure
