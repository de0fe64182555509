/- The contracts of bits.Div64, fixed.MulDiv and of the reference's MulDiv, over whole numbers, in the form in which the printed texts call them. -/
import Derived.Test.YthneihebdlppeaaBPure3
namespace Go.Proofs.Ythneihebdlppeaa.P
open Go.RowKit Go.Proofs.YthneihebdlppeaaW.PrintWords

def bits_Mul64.f (a0 : Int) (a1 : Int) : Option (Int × Int) := B.bits_Mul64.f a0 a1
theorem bits_Mul64.calls (a0 : Int) (a1 : Int) (r1 : Int) (r2 : Int) (w : World) (h : bits_Mul64.f a0 a1 = some (r1, r2)) :
    Calls Try.prog 60 #[.int .u64 a0, .int .u64 a1] w fun e w' => e = .returned (.tuple #[.int .u64 r1, .int .u64 r2]) ∧ Drawn0 w w' := B.bits_Mul64.calls a0 a1 r1 r2 w h

def bits_Div64.f (a0 : Int) (a1 : Int) (a2 : Int) : Option (Int × Int) :=
  if B.isU64 a0 ∧ B.isU64 a1 ∧ B.isU64 a2 ∧ a0 < a2 then some ((a0 * 18446744073709551616 + a1) / a2, (a0 * 18446744073709551616 + a1) % a2) else none
theorem bits_Div64.calls (a0 : Int) (a1 : Int) (a2 : Int) (r1 : Int) (r2 : Int) (w : World) (h : bits_Div64.f a0 a1 a2 = some (r1, r2)) :
    Calls Try.prog 62 #[.int .u64 a0, .int .u64 a1, .int .u64 a2] w fun e w' => e = .returned (.tuple #[.int .u64 r1, .int .u64 r2]) ∧ Drawn0 w w' := by
  unfold bits_Div64.f at h
  split at h
  · rename_i hc
    obtain ⟨h0, h1, h2, h3⟩ := hc
    obtain ⟨k, hk⟩ := B.div64_pure h0 h1 h2 h3
    rw [h] at hk
    exact B.bits_Div64.calls k a0 a1 a2 r1 r2 w hk
  · cases h

def fixed_MulDiv.f (a0 : Int) (a1 : Int) (a2 : Int) : Option (Int × Bool) :=
  if B.isI64 a0 ∧ B.isI64 a1 ∧ B.isI64 a2 then some (B.mulDiv a0 a1 a2) else none
theorem fixed_MulDiv.calls (a0 : Int) (a1 : Int) (a2 : Int) (r1 : Int) (r2 : Bool) (w : World) (h : fixed_MulDiv.f a0 a1 a2 = some (r1, r2)) :
    Calls Try.prog 54 #[.int .i64 a0, .int .i64 a1, .int .i64 a2] w fun e w' => e = .returned (.tuple #[.int .i64 r1, .bool r2]) ∧ Drawn0 w w' := by
  unfold fixed_MulDiv.f at h
  split at h
  · rename_i hc
    obtain ⟨h0, h1, h2⟩ := hc
    obtain ⟨k, hk⟩ := B.mulDiv_pure h0 h1 h2
    rw [h] at hk
    exact B.fixed_MulDiv.calls k a0 a1 a2 r1 r2 w hk
  · cases h
end Go.Proofs.Ythneihebdlppeaa.P
