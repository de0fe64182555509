/- The contract of the reference's MulDiv, over whole numbers, in the form in which the printed texts call it. -/
import Derived.Test.YtgbajigcmadofaaBPureR
namespace Go.Proofs.Ytgbajigcmadofaa.P
open Go.RowKit Go.Proofs.YtgbajigcmadofaaW.PrintWords

def timesyncref01_MulDiv.f (a0 : Int) (a1 : Int) (a2 : Int) : Option (Int × Bool) :=
  if B.isI64 a0 ∧ B.isI64 a1 ∧ B.isI64 a2 then some (B.mulDiv a0 a1 a2) else none
theorem timesyncref01_MulDiv.calls (a0 : Int) (a1 : Int) (a2 : Int) (r1 : Int) (r2 : Bool) (w : World) (h : timesyncref01_MulDiv.f a0 a1 a2 = some (r1, r2)) :
    Calls Try.prog 21 #[.int .i64 a0, .int .i64 a1, .int .i64 a2] w fun e w' => e = .returned (.tuple #[.int .i64 r1, .bool r2]) ∧ Drawn0 w w' := by
  unfold timesyncref01_MulDiv.f at h
  split at h
  · rename_i hc
    obtain ⟨h0, h1, h2⟩ := hc
    have hk := B.mulDivR_pure h0 h1 h2
    rw [h] at hk
    exact B.timesyncref01_MulDiv.calls 129 a0 a1 a2 r1 r2 w hk
  · cases h
end Go.Proofs.Ytgbajigcmadofaa.P
