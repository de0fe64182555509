/- What is to be shown of the law WireSigned over numbers and lists. -/
import Derived.Test.YteiogfmfcmfpjaaPKinds
import Derived.Test.YteiogfmfcmfpjaaXSgn02
namespace Go.Proofs.Yteiogfmfcmfpjaa.P
open Go.RowKit Go.Proofs.YteiogfmfcmfpjaaW.PrintWords Go.Proofs.YteiogfmfcmfpjaaW.PrintLast
def timesynclaw02_WireSigned.Pure : Prop := ∀ (x0 : Int) (x1 : Int), ((Lit.int .i64 x0).wf = true) → ((Lit.int .i64 x1).wf = true) → timesynclaw02_WireSigned.f x0 x1 = some true
end Go.Proofs.Yteiogfmfcmfpjaa.P
