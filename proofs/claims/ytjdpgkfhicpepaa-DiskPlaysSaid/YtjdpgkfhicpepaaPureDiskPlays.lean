/- DiskPlays: proved for all arguments; no condition. -/
import Derived.Test.YtjdpgkfhicpepaaPAx17
namespace Go.Proofs.Ytjdpgkfhicpepaa.Pure
open Go.RowKit Go.Proofs.Ytjdpgkfhicpepaa.PA Go.Proofs.YtjdpgkfhicpepaaW.PrintWords
set_option linter.unusedVariables false

theorem DiskPlays : ententelaw15_DiskPlays.Pure := by
  intro a0 l1 h0 h1
  refine ⟨0, ?_⟩
  unfold ententelaw15_DiskPlays.f
  rw [if_pos ⟨h1.2.2, by omega⟩]

end Go.Proofs.Ytjdpgkfhicpepaa.Pure
