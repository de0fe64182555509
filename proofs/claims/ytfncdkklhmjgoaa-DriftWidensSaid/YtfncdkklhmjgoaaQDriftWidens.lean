/- What is to be shown of the law DriftWidens over numbers and lists. -/
import Derived.Test.YtfncdkklhmjgoaaPKinds
import Derived.Test.YtfncdkklhmjgoaaPx25
namespace Go.Proofs.Ytfncdkklhmjgoaa.P
open Go.RowKit Go.Proofs.YtfncdkklhmjgoaaW.PrintWords Go.Proofs.YtfncdkklhmjgoaaW.PrintLast
def timesynclaw11_DriftWidens.Pure : Prop := ∀ (x0 : S23) (x1 : Int) (x2 : Int) (x3 : Int), (ok23 x0) → ((Lit.int .i64 x1).wf = true) → ((Lit.int .i64 x2).wf = true) → ((Lit.int .u32 x3).wf = true) → ∃ k, timesynclaw11_DriftWidens.f k x0.f0 x0.f1 x1 x2 x3 = some true
end Go.Proofs.Ytfncdkklhmjgoaa.P
