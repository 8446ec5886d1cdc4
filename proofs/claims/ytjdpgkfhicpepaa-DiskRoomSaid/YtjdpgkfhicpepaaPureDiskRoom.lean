/- DiskRoom: proved for all arguments; no condition. -/
import Derived.Test.YtjdpgkfhicpepaaPAx9
namespace Go.Proofs.Ytjdpgkfhicpepaa.Pure
open Go.RowKit Go.Proofs.Ytjdpgkfhicpepaa.PA Go.Proofs.YtjdpgkfhicpepaaW.PrintWords
set_option linter.unusedVariables false

theorem DiskRoom : ententelaw15_DiskRoom.Pure := by
  intro a0 l1 a2 h0 h1 h2
  refine ⟨0, ?_⟩
  unfold ententelaw15_DiskRoom.f
  rw [if_pos ⟨h1.2.2, by omega⟩]

end Go.Proofs.Ytjdpgkfhicpepaa.Pure
