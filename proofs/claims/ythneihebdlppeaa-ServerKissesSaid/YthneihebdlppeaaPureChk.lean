/- Whether a header is valid, both ways. -/
import Derived.Test.YthneihebdlppeaaPx4
import Derived.Test.YthneihebdlppeaaPx12
namespace Go.Proofs.Ythneihebdlppeaa.P
open Go.RowKit Go.Proofs.YthneihebdlppeaaW.PrintWords Go.Proofs.YthneihebdlppeaaW.PrintLast Go.Proofs.YthneihebdlppeaaW.PrintMore

def valid19 (L V M S P C : Int) : Prop := 0 ≤ L ∧ L ≤ 3 ∧ 1 ≤ V ∧ V ≤ 4 ∧ 0 ≤ M ∧ M ≤ 7 ∧ 0 ≤ S ∧ S ≤ 255 ∧ -128 ≤ P ∧ P ≤ 127 ∧ -128 ≤ C ∧ C ≤ 127
instance (L V M S P C : Int) : Decidable (valid19 L V M S P C) := by unfold valid19; infer_instance
theorem in_eq (a lo hi : Int) : ntpmsg_in.f a lo hi = some (decide (lo ≤ a ∧ a ≤ hi)) := by
  unfold ntpmsg_in.f
  by_cases h : a ≥ lo
  · rw [if_pos h]; congr 1; simp; omega
  · rw [if_neg h]; congr 1; simp; omega
set_option maxHeartbeats 4000000 in
theorem check_spec (L V M S P C d1 d2 d3 d4 d5 d6 d7 : Int) : ntpmsg_Check.f L V M S P C d1 d2 d3 d4 d5 d6 d7 = some (if valid19 L V M S P C then 0 else 3) := by
  by_cases hv : valid19 L V M S P C
  all_goals
    first | rw [if_pos hv] | rw [if_neg hv]
    unfold valid19 at hv
    unfold ntpmsg_Check.f
    simp only [in_eq, Option.bind_some, decide_eq_true_eq]
    repeat' split
    all_goals first | rfl | omega
set_option maxHeartbeats 4000000 in
theorem refcheck_spec (L V M S P C d1 d2 d3 d4 d5 d6 d7 : Int) : timesyncref19_Check.f L V M S P C d1 d2 d3 d4 d5 d6 d7 = some (if valid19 L V M S P C then 0 else 3) := by
  by_cases hv : valid19 L V M S P C
  all_goals
    first | rw [if_pos hv] | rw [if_neg hv]
    unfold valid19 at hv
    unfold timesyncref19_Check.f
    repeat' split
    all_goals first | rfl | omega
end Go.Proofs.Ythneihebdlppeaa.P
