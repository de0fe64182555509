/- What is to be shown of the law ServerEchoes over numbers and lists. -/
import Derived.Test.YthneihebdlppeaaPKinds
import Derived.Test.YthneihebdlppeaaPx36
namespace Go.Proofs.Ythneihebdlppeaa.P
open Go.RowKit Go.Proofs.YthneihebdlppeaaW.PrintWords Go.Proofs.YthneihebdlppeaaW.PrintLast
def timesynclaw30_ServerEchoes.Pure : Prop := ∀ (x0 : S25) (x1 : S27) (x2 : S29) (x3 : Int) (x4 : Int), (ok25 x0) → (ok27 x1) → (ok29 x2) → ((Lit.int .i64 x3).wf = true) → ((Lit.int .i64 x4).wf = true) → ∃ k, timesynclaw30_ServerEchoes.f k x0.f0 x0.f1 x0.f2 x0.f3 x0.f4 x0.f5 x0.f6 x0.f7 x0.f8 x0.f9 x0.f10 x0.f11 x0.f12 x1.f0 x1.f1 x1.f2 x2.f0 x2.f1 x2.f2 x2.f3 x3 x4 = some true
end Go.Proofs.Ythneihebdlppeaa.P
