/- What is to be shown of the law NtpmsgFields over numbers and lists. -/
import Derived.Test.YtpmkggcmnelhhaaPKinds
import Derived.Test.YtpmkggcmnelhhaaXFld19
namespace Go.Proofs.Ytpmkggcmnelhhaa.P
open Go.RowKit Go.Proofs.YtpmkggcmnelhhaaW.PrintWords Go.Proofs.YtpmkggcmnelhhaaW.PrintLast
def timesynclaw19_NtpmsgFields.Pure : Prop := ∀ (x0 : S25), (ok25 x0) → timesynclaw19_NtpmsgFields.f x0.f0 x0.f1 x0.f2 x0.f3 x0.f4 x0.f5 x0.f6 x0.f7 x0.f8 x0.f9 x0.f10 x0.f11 x0.f12 = some true
end Go.Proofs.Ytpmkggcmnelhhaa.P
