/- Meet, Hull, Has, Width and Shift of the program answer as the reference's do, for all intervals and numbers. -/
import Derived.Test.YtfncdkklhmjgoaaPureE
import Derived.Test.YtfncdkklhmjgoaaPureB
import Derived.Test.YtfncdkklhmjgoaaQDriftSets
namespace Go.Proofs.Ytfncdkklhmjgoaa.Pure
open Go.RowKit Go.Proofs.Ytfncdkklhmjgoaa.P Go.Proofs.YtfncdkklhmjgoaaW.PrintWords Go.Proofs.YtfncdkklhmjgoaaW.PrintLast Go.Proofs.YtfncdkklhmjgoaaW.PrintMore

def sums (a b : Int) : Int × Bool := if -9223372036854775808 ≤ a + b ∧ a + b ≤ 9223372036854775807 then (a + b, true) else (0, false)
def diffs (a b : Int) : Int × Bool := if -9223372036854775808 ≤ a - b ∧ a - b ≤ 9223372036854775807 then (a - b, true) else (0, false)
theorem add_tells {a b : Int} (ha : B.isI64 a) (hb : B.isI64 b) : fixed_Add.f a b = some (sums a b) := by
  obtain ⟨a0, a1⟩ := ha; obtain ⟨b0, b1⟩ := hb
  have hs := add_signs a0 a1 b0 b1
  unfold fixed_Add.f sums
  by_cases hd : -9223372036854775808 ≤ a + b ∧ a + b ≤ 9223372036854775807
  · rw [if_neg (by rw [hs]; omega), if_pos hd, w64 (by omega) (by omega)]
  · rw [if_pos (by rw [hs]; omega), if_neg hd]
theorem sub_tells {a b : Int} (ha : B.isI64 a) (hb : B.isI64 b) : fixed_Sub.f a b = some (diffs a b) := by
  obtain ⟨a0, a1⟩ := ha; obtain ⟨b0, b1⟩ := hb
  have hs := sub_signs a0 a1 b0 b1
  unfold fixed_Sub.f diffs
  by_cases hd : -9223372036854775808 ≤ a - b ∧ a - b ≤ 9223372036854775807
  · rw [if_neg (by rw [hs]; omega), if_pos hd, w64 (by omega) (by omega)]
  · rw [if_pos (by rw [hs]; omega), if_neg hd]
theorem add_tellsR {a b : Int} (ha : B.isI64 a) (hb : B.isI64 b) : timesyncref01_Add.f a b = some (sums a b) := by
  obtain ⟨a0, a1⟩ := ha; obtain ⟨b0, b1⟩ := hb
  unfold timesyncref01_Add.f sums
  by_cases h : b > 0
  · rw [if_pos h, w64 (x := 9223372036854775807 - b) (by omega) (by omega)]
    by_cases h2 : a > 9223372036854775807 - b
    · rw [if_pos h2, if_neg (by omega)]
    · rw [if_neg h2, if_neg (by omega), if_pos (by omega), w64 (by omega) (by omega)]
  · rw [if_neg h]
    by_cases h1 : b < 0
    · rw [if_pos h1, w64 (x := -9223372036854775808 - b) (by omega) (by omega)]
      by_cases h2 : a < -9223372036854775808 - b
      · rw [if_pos h2, if_neg (by omega)]
      · rw [if_neg h2, if_pos (by omega), w64 (by omega) (by omega)]
    · rw [if_neg h1, if_pos (by omega), w64 (by omega) (by omega)]
theorem sub_tellsR {a b : Int} (ha : B.isI64 a) (hb : B.isI64 b) : timesyncref01_Sub.f a b = some (diffs a b) := by
  obtain ⟨a0, a1⟩ := ha; obtain ⟨b0, b1⟩ := hb
  unfold timesyncref01_Sub.f diffs
  by_cases h : b < 0
  · rw [if_pos h, w64 (x := 9223372036854775807 + b) (by omega) (by omega)]
    by_cases h2 : a > 9223372036854775807 + b
    · rw [if_pos h2, if_neg (by omega)]
    · rw [if_neg h2, if_neg (by omega), if_pos (by omega), w64 (by omega) (by omega)]
  · rw [if_neg h]
    by_cases h1 : b > 0
    · rw [if_pos h1, w64 (x := -9223372036854775808 + b) (by omega) (by omega)]
      by_cases h2 : a < -9223372036854775808 + b
      · rw [if_pos h2, if_neg (by omega)]
      · rw [if_neg h2, if_pos (by omega), w64 (by omega) (by omega)]
    · rw [if_neg h1, if_pos (by omega), w64 (by omega) (by omega)]
theorem meet_same (a b c d : Int) : timesyncref11_Meet.f a b c d = drift_Meet.f a b c d := rfl
theorem hull_same (a b c d : Int) : timesyncref11_Hull.f a b c d = drift_Hull.f a b c d := rfl
theorem has_same (a b c : Int) : timesyncref11_Has.f a b c = drift_Has.f a b c := rfl
theorem meet_some (a b c d : Int) : ∃ r, drift_Meet.f a b c d = some r := by
  unfold drift_Meet.f
  rw [check_tells, check_tells]
  simp only [Option.bind_some]
  repeat' split
  all_goals exact ⟨_, rfl⟩
theorem hull_some (a b c d : Int) : ∃ r, drift_Hull.f a b c d = some r := by
  unfold drift_Hull.f
  rw [check_tells, check_tells]
  simp only [Option.bind_some]
  repeat' split
  all_goals exact ⟨_, rfl⟩
theorem has_some (a b c : Int) : ∃ r, drift_Has.f a b c = some r := by
  unfold drift_Has.f
  rw [check_tells]
  simp only [Option.bind_some]
  repeat' split
  all_goals exact ⟨_, rfl⟩
theorem width_both {a b : Int} (ha : B.isI64 a) (hb : B.isI64 b) : ∃ r, drift_Width.f a b = some r ∧ timesyncref11_Width.f a b = some r := by
  unfold drift_Width.f timesyncref11_Width.f
  rw [check_tells, check_tellsR, sub_tells hb ha, sub_tellsR hb ha]
  simp only [Option.bind_some]
  repeat' split
  all_goals exact ⟨_, rfl, rfl⟩
theorem shift_both {a b d : Int} (ha : B.isI64 a) (hb : B.isI64 b) (hd : B.isI64 d) : ∃ r, drift_Shift.f a b d = some r ∧ timesyncref11_Shift.f a b d = some r := by
  unfold drift_Shift.f timesyncref11_Shift.f
  rw [check_tells, check_tellsR, add_tells ha hd, add_tellsR ha hd, add_tells hb hd, add_tellsR hb hd]
  simp only [Option.bind_some, valid_tells, valid_tellsR]
  repeat' split
  all_goals exact ⟨_, rfl, rfl⟩
theorem DriftSets : timesynclaw11_DriftSets.Pure := by
  intro x0 x1 t h0 _ ht
  obtain ⟨wa, wb⟩ := h0
  have ha := i64_of wa; have hb := i64_of wb; have ht := i64_of ht
  generalize x0.f0 = a at *; generalize x0.f1 = b at *; generalize x1.f0 = c at *; generalize x1.f1 = d at *
  obtain ⟨m, hm⟩ := meet_some a b c d
  obtain ⟨u, hu⟩ := hull_some a b c d
  obtain ⟨p, hp⟩ := has_some a b t
  obtain ⟨w, hw, hw'⟩ := width_both ha hb
  obtain ⟨s, hs, hs'⟩ := shift_both ha hb ht
  refine ⟨1, ?_⟩
  unfold timesynclaw11_DriftSets.f
  rw [meet_same, hm, hs, hs', hull_same, hu, has_same, hp, hw, hw', awake_tells]
  simp
end Go.Proofs.Ytfncdkklhmjgoaa.Pure
