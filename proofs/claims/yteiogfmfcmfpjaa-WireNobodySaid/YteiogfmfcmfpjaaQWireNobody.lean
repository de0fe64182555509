/- What is to be shown of the law WireNobody over numbers and lists. -/
import Derived.Test.YteiogfmfcmfpjaaPKinds
import Derived.Test.YteiogfmfcmfpjaaXNob02
namespace Go.Proofs.Yteiogfmfcmfpjaa.P
open Go.RowKit Go.Proofs.YteiogfmfcmfpjaaW.PrintWords Go.Proofs.YteiogfmfcmfpjaaW.PrintLast
def timesynclaw02_WireNobody.Pure : Prop := ∀ (x0 : Int), ((Lit.int .i64 x0).wf = true) → timesynclaw02_WireNobody.f x0 = some true
end Go.Proofs.Yteiogfmfcmfpjaa.P
