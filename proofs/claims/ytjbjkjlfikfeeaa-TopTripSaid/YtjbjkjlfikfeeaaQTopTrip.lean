/- What is to be shown of the law TopTrip over numbers and lists. -/
import Derived.Test.YtjbjkjlfikfeeaaPKinds
import Derived.Test.YtjbjkjlfikfeeaaPx17
namespace Go.Proofs.Ytjbjkjlfikfeeaa.P
open Go.RowKit Go.Proofs.YtjbjkjlfikfeeaaW.PrintWords Go.Proofs.YtjbjkjlfikfeeaaW.PrintLast
def timesynctop_TopTrip.Pure : Prop := ∀ (x0 : S24) (x1 : S26), (ok24 x0) → (ok26 x1) → ∃ k, timesynctop_TopTrip.f k x0.f0 x0.f1 x1.f0 x1.f1 x1.f2 x1.f3 x1.f4 x1.f5 = some true
end Go.Proofs.Ytjbjkjlfikfeeaa.P
