/- What is to be shown of the law CombineBetween over numbers and lists. -/
import Derived.Test.YtgbajigcmadofaaPKinds
import Derived.Test.YtgbajigcmadofaaPx19
namespace Go.Proofs.Ytgbajigcmadofaa.P
open Go.RowKit Go.Proofs.YtgbajigcmadofaaW.PrintWords Go.Proofs.YtgbajigcmadofaaW.PrintLast
def timesynclaw26_CombineBetween.Pure : Prop := ∀ (x0 : List (S34)), ((x0.length ≤ maxLen ∧ x0.length * bytes34 ≤ reachBytes ∧ ∀ y0 ∈ x0, ok34 y0)) → ∃ k, timesynclaw26_CombineBetween.f k x0 = some true
end Go.Proofs.Ytgbajigcmadofaa.P
