/- Check, and the bytes of a valid header. -/
import Derived.Test.YtpmkggcmnelhhaaPureN19
import Derived.Test.YtpmkggcmnelhhaaPx6
import Derived.Test.YtpmkggcmnelhhaaPx9
import Derived.Test.YtpmkggcmnelhhaaPx10
namespace Go.Proofs.Ytpmkggcmnelhhaa.P
open Go.RowKit Go.Proofs.YtpmkggcmnelhhaaW.PrintWords Go.Proofs.YtpmkggcmnelhhaaW.PrintLast Go.Proofs.YtpmkggcmnelhhaaW.PrintMore

def valid19 (L V M S P C : Int) : Prop := 0 ≤ L ∧ L ≤ 3 ∧ 1 ≤ V ∧ V ≤ 4 ∧ 0 ≤ M ∧ M ≤ 7 ∧ 0 ≤ S ∧ S ≤ 255 ∧ -128 ≤ P ∧ P ≤ 127 ∧ -128 ≤ C ∧ C ≤ 127
instance (L V M S P C : Int) : Decidable (valid19 L V M S P C) := by unfold valid19; infer_instance
theorem in_eq (a lo hi : Int) : ntpmsg_in.f a lo hi = some (decide (lo ≤ a ∧ a ≤ hi)) := by
  unfold ntpmsg_in.f
  by_cases h : a ≥ lo
  · rw [if_pos h]; congr 1; simp; omega
  · rw [if_neg h]; congr 1; simp; omega
set_option maxHeartbeats 4000000 in
theorem check_spec (L V M S P C d1 d2 d3 d4 d5 d6 d7 : Int) : ntpmsg_Check.f L V M S P C d1 d2 d3 d4 d5 d6 d7 = some (if valid19 L V M S P C then 0 else 3) := by
  by_cases hv : valid19 L V M S P C
  all_goals
    first | rw [if_pos hv] | rw [if_neg hv]
    unfold valid19 at hv
    unfold ntpmsg_Check.f
    simp only [in_eq, Option.bind_some, decide_eq_true_eq]
    repeat' split
    all_goals first | rfl | omega
set_option maxHeartbeats 4000000 in
theorem refcheck_spec (L V M S P C d1 d2 d3 d4 d5 d6 d7 : Int) : timesyncref19_Check.f L V M S P C d1 d2 d3 d4 d5 d6 d7 = some (if valid19 L V M S P C then 0 else 3) := by
  by_cases hv : valid19 L V M S P C
  all_goals
    first | rw [if_pos hv] | rw [if_neg hv]
    unfold valid19 at hv
    unfold timesyncref19_Check.f
    repeat' split
    all_goals first | rfl | omega
theorem first_or : ∀ (L V M : Nat), L < 4 → V < 8 → M < 8 → Go.bits .or .i64 (Go.bits .or .i64 (wrap64 ((L : Int) * 64)) (wrap64 ((V : Int) * 8))) M = L * 64 + V * 8 + M := by
  have h : ∀ (L : Fin 4) (V : Fin 8) (M : Fin 8), Go.bits .or .i64 (Go.bits .or .i64 (wrap64 ((L.val : Int) * 64)) (wrap64 ((V.val : Int) * 8))) M.val = L.val * 64 + V.val * 8 + M.val := by decide +kernel
  intro L V M hL hV hM
  exact h ⟨L, hL⟩ ⟨V, hV⟩ ⟨M, hM⟩
theorem and_255 (x : Int) (h0 : -128 ≤ x) (h1 : x ≤ 127) : (Go.bits .and .i64 x 255) % 256 = x % 256 := by
  have h : ∀ n : Fin 256, (Go.bits .and .i64 ((n.val : Int) - 128) 255) % 256 = ((n.val : Int) - 128) % 256 := by decide +kernel
  have := h ⟨(x + 128).toNat, by omega⟩
  have e : (((x + 128).toNat : Nat) : Int) - 128 = x := by omega
  dsimp only at this
  rw [e] at this
  exact this
end Go.Proofs.Ytpmkggcmnelhhaa.P
