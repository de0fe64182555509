/- What is to be shown of the law DriftSets over numbers and lists. -/
import Derived.Test.YtfncdkklhmjgoaaPKinds
import Derived.Test.YtfncdkklhmjgoaaPx35
namespace Go.Proofs.Ytfncdkklhmjgoaa.P
open Go.RowKit Go.Proofs.YtfncdkklhmjgoaaW.PrintWords Go.Proofs.YtfncdkklhmjgoaaW.PrintLast
def timesynclaw11_DriftSets.Pure : Prop := ∀ (x0 : S23) (x1 : S23) (x2 : Int), (ok23 x0) → (ok23 x1) → ((Lit.int .i64 x2).wf = true) → ∃ k, timesynclaw11_DriftSets.f k x0.f0 x0.f1 x1.f0 x1.f1 x2 = some true
end Go.Proofs.Ytfncdkklhmjgoaa.P
