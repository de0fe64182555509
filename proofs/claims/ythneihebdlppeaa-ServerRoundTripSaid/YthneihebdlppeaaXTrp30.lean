/- The law ServerRoundTrip: both ways joined. -/
import Derived.Test.YthneihebdlppeaaXTrw30
import Derived.Test.YthneihebdlppeaaXTrb30
namespace Go.Proofs.Ythneihebdlppeaa.P
open Go.RowKit Go.Proofs.YthneihebdlppeaaW.PrintWords Go.Proofs.YthneihebdlppeaaW.PrintLast Go.Proofs.YthneihebdlppeaaW.PrintMore Go.Proofs.Ythneihebdlppeaa.Rd
/-- What the law answers at fields whose bytes are bytes. -/
def timesynclaw30_ServerRoundTrip.f (_ _ : Int) (l1 l2 : List S50) : Option Bool := if (∀ x ∈ l1, x.f1.length < 140737488355328 ∧ bytesOk x.f1) ∧ (∀ x ∈ l2, x.f1.length < 140737488355328 ∧ bytesOk x.f1) then some true else none
theorem min7 (l : List S50) : (if 7 < (l.length : Int) then 7 else (l.length : Int)) = ((min l.length 7 : Nat) : Int) := by split <;> omega
theorem len7 (l : List S50) : (l.take (min l.length 7)).length = min l.length 7 := by rw [List.length_take]; omega
theorem timesynclaw30_ServerRoundTrip.calls (a0_0 a0_1 : Int) (A1 : Option Addr) (c1 : Nat) (l1 : List S50) (A2 : Option Addr) (c2 : Nat) (l2 : List S50) (r : Bool) (w : World) (hr1 : Kd.C k50 w A1 l1.length l1) (hc1 : l1.length ≤ c1) (hr2 : Kd.C k50 w A2 l2.length l2) (hc2 : l2.length ≤ c2) (h : timesynclaw30_ServerRoundTrip.f a0_0 a0_1 l1 l2 = some r) :
    Calls Try.prog 8 #[.agg #[.int .i64 a0_0, .int .i64 a0_1], .slice A1 l1.length c1, .slice A2 l2.length c2] w fun e w' => e = .returned (.bool r) ∧ Below w.heap.size w w' := by
  unfold timesynclaw30_ServerRoundTrip.f at h
  split at h
  · rename_i hx
    obtain rfl := Option.some.inj h
    by_cases hv : chkV a0_0 a0_1
    · exact trip30_walk a0_0 a0_1 A1 c1 l1 A2 c2 l2 w hr1 hc1 hr2 hc2 hv (min l1.length 7) (min l2.length 7) (min7 l1) (min7 l2) (Nat.min_le_right _ _) (Nat.min_le_right _ _) (Nat.min_le_left _ _) (Nat.min_le_left _ _) (l1.take (min l1.length 7)) (l2.take (min l2.length 7)) rfl rfl (len7 l1) (len7 l2) (fun x hm => hx.1 x (List.mem_of_mem_take hm)) (fun x hm => hx.2 x (List.mem_of_mem_take hm))
    · refine trip30_bad a0_0 a0_1 _ _ w ?_ _ _ _ rfl rfl rfl ?_
      · show _ = _
        rw [field_eq]; unfold fieldV; rw [if_neg hv]
      · unfold chkV at hv
        by_cases h1 : a0_1 < a0_0
        · simp [h1]
        · by_cases h2 : a0_0 < -8000000000000000000
          · simp [h2]
          · have h3 : 8000000000000000000 < a0_1 := by omega
            simp [h3]
  · cases h
end Go.Proofs.Ythneihebdlppeaa.P
