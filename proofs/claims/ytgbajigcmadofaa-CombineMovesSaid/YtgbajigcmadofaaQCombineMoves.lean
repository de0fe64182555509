/- What is to be shown of the law CombineMoves over numbers and lists. -/
import Derived.Test.YtgbajigcmadofaaPKinds
import Derived.Test.YtgbajigcmadofaaPx22
namespace Go.Proofs.Ytgbajigcmadofaa.P
open Go.RowKit Go.Proofs.YtgbajigcmadofaaW.PrintWords Go.Proofs.YtgbajigcmadofaaW.PrintLast
def timesynclaw26_CombineMoves.Pure : Prop := ∀ (x0 : List (S34)) (x1 : Int), ((x0.length ≤ maxLen ∧ x0.length * bytes34 ≤ reachBytes ∧ ∀ y0 ∈ x0, ok34 y0)) → ((Lit.int .i64 x1).wf = true) → ∃ k, timesynclaw26_CombineMoves.f k x0 x1 = some true
end Go.Proofs.Ytgbajigcmadofaa.P
