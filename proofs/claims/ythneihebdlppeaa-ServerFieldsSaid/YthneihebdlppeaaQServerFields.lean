/- What is to be shown of the law ServerFields over numbers and lists. -/
import Derived.Test.YthneihebdlppeaaPKinds
import Derived.Test.YthneihebdlppeaaPx31
namespace Go.Proofs.Ythneihebdlppeaa.P
open Go.RowKit Go.Proofs.YthneihebdlppeaaW.PrintWords Go.Proofs.YthneihebdlppeaaW.PrintLast
def timesynclaw30_ServerFields.Pure : Prop := ∀ (x0 : S46) (x1 : List (S50)), (ok46 x0) → ((x1.length ≤ maxLen ∧ x1.length * bytes50 ≤ reachBytes ∧ ∀ y0 ∈ x1, ok50 y0)) → ∃ k, timesynclaw30_ServerFields.f k x0.f0 x0.f1 x1 = some true
end Go.Proofs.Ythneihebdlppeaa.P
