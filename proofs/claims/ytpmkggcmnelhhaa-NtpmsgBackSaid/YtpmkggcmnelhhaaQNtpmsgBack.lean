/- What is to be shown of the law NtpmsgBack over numbers and lists. -/
import Derived.Test.YtpmkggcmnelhhaaPKinds
import Derived.Test.YtpmkggcmnelhhaaPx21
namespace Go.Proofs.Ytpmkggcmnelhhaa.P
open Go.RowKit Go.Proofs.YtpmkggcmnelhhaaW.PrintWords Go.Proofs.YtpmkggcmnelhhaaW.PrintLast
def timesynclaw19_NtpmsgBack.Pure : Prop := ∀ (x0 : S25) (x1 : List Int), (ok25 x0) → ((x1.length ≤ maxLen ∧ x1.length * bytes5 ≤ reachBytes ∧ ∀ y0 ∈ x1, (Lit.int .u8 y0).wf = true)) → ∃ k, timesynclaw19_NtpmsgBack.f k x0.f0 x0.f1 x0.f2 x0.f3 x0.f4 x0.f5 x0.f6 x0.f7 x0.f8 x0.f9 x0.f10 x0.f11 x0.f12 x1 = some true
end Go.Proofs.Ytpmkggcmnelhhaa.P
