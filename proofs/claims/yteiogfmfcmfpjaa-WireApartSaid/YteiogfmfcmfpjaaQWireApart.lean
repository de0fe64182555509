/- What is to be shown of the law WireApart over numbers and lists. -/
import Derived.Test.YteiogfmfcmfpjaaPKinds
import Derived.Test.YteiogfmfcmfpjaaXApt02
namespace Go.Proofs.Yteiogfmfcmfpjaa.P
open Go.RowKit Go.Proofs.YteiogfmfcmfpjaaW.PrintWords Go.Proofs.YteiogfmfcmfpjaaW.PrintLast
def timesynclaw02_WireApart.Pure : Prop := ∀ (x0 : List Int) (x1 : Int), ((x0.length ≤ maxLen ∧ x0.length * bytes5 ≤ reachBytes ∧ ∀ y0 ∈ x0, (Lit.int .u8 y0).wf = true)) → ((Lit.int .i64 x1).wf = true) → timesynclaw02_WireApart.f x0 x1 = some true
end Go.Proofs.Yteiogfmfcmfpjaa.P
