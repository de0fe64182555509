/- Check and Elapsed of the program answer as the reference's do, for all intervals and numbers. -/
import Derived.Test.YtfncdkklhmjgoaaPureE
import Derived.Test.YtfncdkklhmjgoaaQDriftBounds
namespace Go.Proofs.Ytfncdkklhmjgoaa.Pure
open Go.RowKit Go.Proofs.Ytfncdkklhmjgoaa.P Go.Proofs.YtfncdkklhmjgoaaW.PrintWords Go.Proofs.YtfncdkklhmjgoaaW.PrintLast Go.Proofs.YtfncdkklhmjgoaaW.PrintMore

theorem DriftBounds : timesynclaw11_DriftBounds.Pure := by
  intro x0 x1 x2 _ _ _
  refine ⟨1, ?_⟩
  unfold timesynclaw11_DriftBounds.f
  simp only [elapsed_tells, elapsed_tellsR, check_tells, check_tellsR, awake_tells, Option.bind_some]
  simp
end Go.Proofs.Ytfncdkklhmjgoaa.Pure
