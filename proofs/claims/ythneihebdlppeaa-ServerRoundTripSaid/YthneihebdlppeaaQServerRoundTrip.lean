/- What is to be shown of the law ServerRoundTrip over numbers and lists. -/
import Derived.Test.YthneihebdlppeaaPKinds
import Derived.Test.YthneihebdlppeaaXTrp30
namespace Go.Proofs.Ythneihebdlppeaa.P
open Go.RowKit Go.Proofs.YthneihebdlppeaaW.PrintWords Go.Proofs.YthneihebdlppeaaW.PrintLast
def timesynclaw30_ServerRoundTrip.Pure : Prop := ∀ (x0 : S46) (x1 : List (S50)) (x2 : List (S50)), (ok46 x0) → ((x1.length ≤ maxLen ∧ x1.length * bytes50 ≤ reachBytes ∧ ∀ y0 ∈ x1, ok50 y0)) → ((x2.length ≤ maxLen ∧ x2.length * bytes50 ≤ reachBytes ∧ ∀ y0 ∈ x2, ok50 y0)) → timesynclaw30_ServerRoundTrip.f x0.f0 x0.f1 x1 x2 = some true
end Go.Proofs.Ythneihebdlppeaa.P
