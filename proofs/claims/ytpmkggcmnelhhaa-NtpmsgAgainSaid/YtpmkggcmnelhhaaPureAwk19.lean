/- The examples of the chapter. -/
import Derived.Test.YtpmkggcmnelhhaaPx15
namespace Go.Proofs.Ytpmkggcmnelhhaa.P
open Go.RowKit
theorem awake_ok : timesynclaw19_awake.f 60 = some true := by kernel_rfl
end Go.Proofs.Ytpmkggcmnelhhaa.P
