/- What is to be shown of the law WireStops over numbers and lists. -/
import Derived.Test.YteiogfmfcmfpjaaPKinds
import Derived.Test.YteiogfmfcmfpjaaXStp02
namespace Go.Proofs.Yteiogfmfcmfpjaa.P
open Go.RowKit Go.Proofs.YteiogfmfcmfpjaaW.PrintWords Go.Proofs.YteiogfmfcmfpjaaW.PrintLast
def timesynclaw02_WireStops.Pure : Prop := ∀ (x0 : List Int) (x1 : Int) (x2 : Int) (x3 : List (S52)), ((x0.length ≤ maxLen ∧ x0.length * bytes5 ≤ reachBytes ∧ ∀ y0 ∈ x0, (Lit.int .u8 y0).wf = true)) → ((Lit.int .i64 x1).wf = true) → ((Lit.int .i64 x2).wf = true) → ((x3.length ≤ maxLen ∧ x3.length * bytes52 ≤ reachBytes ∧ ∀ y0 ∈ x3, ok52 y0)) → timesynclaw02_WireStops.f x0 x1 x2 x3 = some true
end Go.Proofs.Yteiogfmfcmfpjaa.P
