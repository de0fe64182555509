/- What is to be shown of the law ServerKisses over numbers and lists. -/
import Derived.Test.YthneihebdlppeaaPKinds
import Derived.Test.YthneihebdlppeaaPx33
namespace Go.Proofs.Ythneihebdlppeaa.P
open Go.RowKit Go.Proofs.YthneihebdlppeaaW.PrintWords Go.Proofs.YthneihebdlppeaaW.PrintLast
def timesynclaw30_ServerKisses.Pure : Prop := ∀ (x0 : S25) (x1 : ByteArray), (ok25 x0) → (x1.size ≤ reachBytes) → ∃ k, timesynclaw30_ServerKisses.f k x0.f0 x0.f1 x0.f2 x0.f3 x0.f4 x0.f5 x0.f6 x0.f7 x0.f8 x0.f9 x0.f10 x0.f11 x0.f12 x1 = some true
end Go.Proofs.Ythneihebdlppeaa.P
