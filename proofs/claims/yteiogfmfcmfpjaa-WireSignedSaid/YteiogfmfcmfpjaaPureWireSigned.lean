/- The law WireSigned over numbers: the walk has shown it whole. -/
import Derived.Test.YteiogfmfcmfpjaaQWireSigned
namespace Go.Proofs.Yteiogfmfcmfpjaa.Pure
open Go.RowKit Go.Proofs.Yteiogfmfcmfpjaa.P
theorem WireSigned : timesynclaw02_WireSigned.Pure := fun _ _ _ _ => rfl
end Go.Proofs.Yteiogfmfcmfpjaa.Pure
