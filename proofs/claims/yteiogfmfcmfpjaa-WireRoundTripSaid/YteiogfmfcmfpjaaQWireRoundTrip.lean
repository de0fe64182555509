/- What is to be shown of the law WireRoundTrip over numbers and lists. -/
import Derived.Test.YteiogfmfcmfpjaaPKinds
import Derived.Test.YteiogfmfcmfpjaaXTrp02
namespace Go.Proofs.Yteiogfmfcmfpjaa.P
open Go.RowKit Go.Proofs.YteiogfmfcmfpjaaW.PrintWords Go.Proofs.YteiogfmfcmfpjaaW.PrintLast
def timesynclaw02_WireRoundTrip.Pure : Prop := ∀ (x0 : List (S45)), ((x0.length ≤ maxLen ∧ x0.length * bytes45 ≤ reachBytes ∧ ∀ y0 ∈ x0, ok45 y0)) → timesynclaw02_WireRoundTrip.f x0 = some true
end Go.Proofs.Yteiogfmfcmfpjaa.P
