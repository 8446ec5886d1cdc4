/- DiskNobody: proved for all arguments; no condition. -/
import Derived.Test.YtjdpgkfhicpepaaPAx12
namespace Go.Proofs.Ytjdpgkfhicpepaa.Pure
open Go.RowKit Go.Proofs.Ytjdpgkfhicpepaa.PA Go.Proofs.YtjdpgkfhicpepaaW.PrintWords
set_option linter.unusedVariables false

theorem DiskNobody : ententelaw15_DiskNobody.Pure := by
  intro a b c d l _ _ _ _ _
  exact ⟨0, rfl⟩

end Go.Proofs.Ytjdpgkfhicpepaa.Pure
