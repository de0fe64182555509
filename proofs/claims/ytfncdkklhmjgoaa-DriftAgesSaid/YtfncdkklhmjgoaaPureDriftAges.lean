/- Age of the program answers as the reference's does, for all intervals and numbers. -/
import Derived.Test.YtfncdkklhmjgoaaPureE
import Derived.Test.YtfncdkklhmjgoaaQDriftAges
namespace Go.Proofs.Ytfncdkklhmjgoaa.Pure
open Go.RowKit Go.Proofs.Ytfncdkklhmjgoaa.P Go.Proofs.YtfncdkklhmjgoaaW.PrintWords Go.Proofs.YtfncdkklhmjgoaaW.PrintLast Go.Proofs.YtfncdkklhmjgoaaW.PrintMore

theorem DriftAges : timesynclaw11_DriftAges.Pure := by
  intro x0 x1 x2 _ _ _
  refine ⟨1, ?_⟩
  unfold timesynclaw11_DriftAges.f
  simp only [age_tells, age_tellsR, awake_tells, Option.bind_some]
  simp
end Go.Proofs.Ytfncdkklhmjgoaa.Pure
