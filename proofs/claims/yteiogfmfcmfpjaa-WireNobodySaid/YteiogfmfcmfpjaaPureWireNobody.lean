/- The law WireNobody over numbers and lists: the walk has shown it whole. -/
import Derived.Test.YteiogfmfcmfpjaaQWireNobody
namespace Go.Proofs.Yteiogfmfcmfpjaa.Pure
open Go.RowKit Go.Proofs.Yteiogfmfcmfpjaa.P
theorem WireNobody : timesynclaw02_WireNobody.Pure := fun _ _  => rfl
end Go.Proofs.Yteiogfmfcmfpjaa.Pure
