/- What is to be shown of the law CombineSingle over numbers and lists. -/
import Derived.Test.YtgbajigcmadofaaPKinds
import Derived.Test.YtgbajigcmadofaaPx20
namespace Go.Proofs.Ytgbajigcmadofaa.P
open Go.RowKit Go.Proofs.YtgbajigcmadofaaW.PrintWords Go.Proofs.YtgbajigcmadofaaW.PrintLast
def timesynclaw26_CombineSingle.Pure : Prop := ∀ (x0 : S34) (x1 : S34), (ok34 x0) → (ok34 x1) → ∃ k, timesynclaw26_CombineSingle.f k x0.f0 x0.f1 x0.f2 x0.f3 x0.f4 x1.f0 x1.f1 x1.f2 x1.f3 x1.f4 = some true
end Go.Proofs.Ytgbajigcmadofaa.P
