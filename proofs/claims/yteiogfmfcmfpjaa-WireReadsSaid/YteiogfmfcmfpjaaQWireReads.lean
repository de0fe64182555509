/- What is to be shown of the law WireReads over numbers and lists. -/
import Derived.Test.YteiogfmfcmfpjaaPKinds
import Derived.Test.YteiogfmfcmfpjaaXRea02
namespace Go.Proofs.Yteiogfmfcmfpjaa.P
open Go.RowKit Go.Proofs.YteiogfmfcmfpjaaW.PrintWords Go.Proofs.YteiogfmfcmfpjaaW.PrintLast
def timesynclaw02_WireReads.Pure : Prop := ∀ (x0 : List Int) (x1 : List (S52)), ((x0.length ≤ maxLen ∧ x0.length * bytes5 ≤ reachBytes ∧ ∀ y0 ∈ x0, (Lit.int .u8 y0).wf = true)) → ((x1.length ≤ maxLen ∧ x1.length * bytes52 ≤ reachBytes ∧ ∀ y0 ∈ x1, ok52 y0)) → timesynclaw02_WireReads.f x0 x1 = some true
end Go.Proofs.Yteiogfmfcmfpjaa.P
