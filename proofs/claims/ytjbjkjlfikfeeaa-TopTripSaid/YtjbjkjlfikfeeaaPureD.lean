/- Layer 11 over whole numbers: what Elapsed, Check, valid, Trip and Has answer. -/
import Derived.OpenShut
import Derived.Test.YtjbjkjlfikfeeaaPx12
import Derived.Test.YtjbjkjlfikfeeaaPx14
import Derived.Test.YtjbjkjlfikfeeaaPx16
namespace Go.Proofs.Ytjbjkjlfikfeeaa.Pure
open Go.RowKit Go.Proofs.Ytjbjkjlfikfeeaa.P Go.Proofs.YtjbjkjlfikfeeaaW.PrintWords Go.Proofs.YtjbjkjlfikfeeaaW.PrintLast Go.Proofs.YtjbjkjlfikfeeaaW.PrintMore

theorem i64_of {x : Int} (h : (Lit.int .i64 x).wf = true) : B.isI64 x := bounds_i64 h
theorem w64 {x : Int} (h0 : -9223372036854775808 ≤ x) (h1 : x < 9223372036854775808) : wrap64 x = x := by unfold wrap64; omega

theorem mulDiv_in {a b c : Int} (hc : 0 < c) (h : B.isI64 (a * b / c)) : B.mulDiv a b c = (a * b / c, true) := by
  unfold B.mulDiv B.floorQ
  rw [if_neg (by omega), if_pos hc]
  exact B.fitI_yes h.1 h.2

/-- The two rounded quotients of Elapsed. -/
def qLo (raw tol : Int) : Int := (raw - 1) * 1000000000 / (1000000000 + tol)
def qHi (raw tol : Int) : Int := (-raw - 1) * 1000000000 / (1000000000 - tol)
theorem qLo_lt {raw tol : Int} (h0 : 0 ≤ raw) (t0 : 0 ≤ tol) : -1 ≤ qLo raw tol ∧ qLo raw tol ≤ raw - 1 := by
  unfold qLo
  have h : 0 ≤ raw * tol := Int.mul_nonneg h0 t0
  refine ⟨Int.le_ediv_of_mul_le (by omega) (by omega), ?_⟩
  have : (raw - 1) * 1000000000 / (1000000000 + tol) < raw := Int.ediv_lt_of_lt_mul (by omega) (by rw [Int.mul_add]; omega)
  omega
theorem qHi_lt {raw tol : Int} (h0 : 0 ≤ raw) (t0 : 0 ≤ tol) (t1 : tol ≤ 500000) : -(2 * raw + 2) ≤ qHi raw tol ∧ qHi raw tol ≤ -raw - 1 := by
  unfold qHi
  have h : 0 ≤ raw * tol := Int.mul_nonneg h0 t0
  have h2 : raw * tol ≤ raw * 500000 := Int.mul_le_mul_of_nonneg_left t1 h0
  refine ⟨Int.le_ediv_of_mul_le (by omega) ?_, ?_⟩
  · have : -(2 * raw + 2) * (1000000000 - tol) = -(2 * raw + 2) * 1000000000 + 2 * (raw * tol) + 2 * tol := by grind
    omega
  · have : (-raw - 1) * 1000000000 / (1000000000 - tol) < -raw := Int.ediv_lt_of_lt_mul (by omega) (by
      have : -raw * (1000000000 - tol) = -raw * 1000000000 + raw * tol := by grind
      omega)
    omega

def okEl (raw tol : Int) : Prop := 0 ≤ raw ∧ raw ≤ 2251799813685248 ∧ 0 ≤ tol ∧ tol ≤ 500000
instance (raw tol : Int) : Decidable (okEl raw tol) := by unfold okEl; infer_instance
/-- The bounds of a duration. -/
def lo (raw tol : Int) : Int := mx 0 (qLo raw tol + 1)
def hi (raw tol : Int) : Int := -qHi raw tol - 1
def elaps (raw tol : Int) : Int × Int × Int := if okEl raw tol then (lo raw tol, hi raw tol, 0) else (0, 0, 3)
theorem lo_hi {raw tol : Int} (h : okEl raw tol) : 0 ≤ lo raw tol ∧ lo raw tol ≤ raw ∧ raw ≤ hi raw tol ∧ hi raw tol ≤ 2 * raw + 1 := by
  obtain ⟨h0, h1, t0, t1⟩ := h
  have a := qLo_lt h0 t0
  have b := qHi_lt h0 t0 t1
  unfold lo hi mx
  refine ⟨by split <;> omega, by split <;> omega, by omega, by omega⟩

theorem elapsed_in {raw tol : Int} (h : okEl raw tol) : fixed_MulDiv.f (wrap64 (raw - 1)) 1000000000 (wrap64 (1000000000 + tol)) = some (qLo raw tol, true) ∧ fixed_MulDiv.f (wrap64 (wrap64 (-raw) - 1)) 1000000000 (wrap64 (1000000000 - tol)) = some (qHi raw tol, true) := by
  obtain ⟨h0, h1, t0, t1⟩ := h
  have a := qLo_lt h0 t0
  have b := qHi_lt h0 t0 t1
  have e1 : wrap64 (-raw) = -raw := w64 (by omega) (by omega)
  rw [e1, w64 (x := raw - 1) (by omega) (by omega), w64 (x := 1000000000 + tol) (by omega) (by omega), w64 (x := -raw - 1) (by omega) (by omega), w64 (x := 1000000000 - tol) (by omega) (by omega)]
  unfold fixed_MulDiv.f
  constructor
  · rw [if_pos (by refine ⟨?_, ?_, ?_⟩ <;> unfold B.isI64 <;> omega), mulDiv_in (by omega) (by unfold qLo at a; unfold B.isI64; omega)]; rfl
  · rw [if_pos (by refine ⟨?_, ?_, ?_⟩ <;> unfold B.isI64 <;> omega), mulDiv_in (by omega) (by unfold qHi at b; unfold B.isI64; omega)]; rfl
/-- Four tests, one after the other. -/
theorem four (raw tol : Int) (X : Bool → Option (Int × Int × Int)) : (if raw < 0 then X true else if raw > 2251799813685248 then X true else if tol < 0 then X true else X (decide (tol > 500000))) = X (!decide (okEl raw tol)) := by
  by_cases h0 : raw < 0
  · rw [if_pos h0, decide_eq_false (show ¬ okEl raw tol by unfold okEl; omega)]; rfl
  · rw [if_neg h0]
    by_cases h1 : raw > 2251799813685248
    · rw [if_pos h1, decide_eq_false (show ¬ okEl raw tol by unfold okEl; omega)]; rfl
    · rw [if_neg h1]
      by_cases h2 : tol < 0
      · rw [if_pos h2, decide_eq_false (show ¬ okEl raw tol by unfold okEl; omega)]; rfl
      · rw [if_neg h2]
        by_cases h3 : tol > 500000
        · rw [decide_eq_true h3, decide_eq_false (show ¬ okEl raw tol by unfold okEl; omega)]; rfl
        · rw [decide_eq_false h3, decide_eq_true (show okEl raw tol by unfold okEl; omega)]; rfl
theorem elapsed_tells (raw tol : Int) (k : Nat) : drift_Elapsed.f (k + 1) raw tol = some (elaps raw tol) := by
  unfold drift_Elapsed.f
  rw [four raw tol (fun b => drift_Elapsed.j0 (k + 1) raw tol b)]
  simp only [drift_Elapsed.j0]
  unfold elaps
  by_cases h : okEl raw tol
  · rw [if_pos h, decide_eq_true h, if_neg (by simp)]
    obtain ⟨e1, e2⟩ := elapsed_in h
    have b := lo_hi h
    have a := qLo_lt h.1 h.2.2.1
    have c := qHi_lt h.1 h.2.2.1 h.2.2.2
    have h1 := h.2.1
    rw [e1, e2]
    simp only [Option.bind_some]
    rw [w64 (x := qLo raw tol + 1) (by omega) (by omega), w64 (x := -qHi raw tol) (by omega) (by omega), w64 (x := -qHi raw tol - 1) (by omega) (by omega)]
    rfl
  · rw [if_neg h, decide_eq_false h, if_pos (by simp)]
/-- A valid interval. -/
def okIv (a b : Int) : Prop := a ≤ b ∧ -8000000000000000000 ≤ a ∧ b ≤ 8000000000000000000
instance (a b : Int) : Decidable (okIv a b) := by unfold okIv; infer_instance
theorem check_tells (a b : Int) : drift_Check.f a b = some (if okIv a b then 0 else 3) := by
  unfold drift_Check.f
  by_cases h0 : a > b
  · rw [if_pos h0, if_neg (show ¬ okIv a b by unfold okIv; omega)]
  · rw [if_neg h0]
    by_cases h1 : a < -8000000000000000000
    · rw [if_pos h1, if_neg (show ¬ okIv a b by unfold okIv; omega)]
    · rw [if_neg h1]
      by_cases h2 : b > 8000000000000000000
      · rw [if_pos h2, if_neg (show ¬ okIv a b by unfold okIv; omega)]
      · rw [if_neg h2, if_pos (show okIv a b by unfold okIv; omega)]
def vald (a b : Int) : Int × Int × Int := if okIv a b then (a, b, 0) else (0, 0, 3)
theorem valid_tells (a b : Int) : drift_valid.f a b = some (vald a b) := by
  unfold drift_valid.f vald
  rw [check_tells]
  simp only [Option.bind_some]
  by_cases h : okIv a b
  · rw [if_pos h, if_pos rfl, if_pos h]
  · rw [if_neg h, if_neg (by omega), if_neg h]
/-- Trip. -/
def tripped (a b raw hold tol : Int) : Int × Int × Int := if okIv a b then (if okEl raw tol then (if hold < 0 then (0, 0, 3) else if hold > hi raw tol then (0, 0, 12) else vald a (wrap64 (wrap64 (b + hi raw tol) - hold))) else (0, 0, 3)) else (0, 0, 2)
theorem trip_tells (a b raw hold tol : Int) (k : Nat) : drift_Trip.f (k + 1) a b raw hold tol = some (tripped a b raw hold tol) := by
  unfold drift_Trip.f tripped
  rw [check_tells]
  simp only [Option.bind_some]
  by_cases h : okIv a b
  · rw [if_pos h, if_pos rfl, if_pos h, elapsed_tells]
    simp only [Option.bind_some]
    unfold elaps
    by_cases h2 : okEl raw tol
    · rw [if_pos h2, if_pos rfl, if_pos h2, valid_tells]
      simp only [Option.bind_some]
      split
      · rfl
      · split <;> rfl
    · rw [if_neg h2, if_neg (by simp), if_neg h2]
  · rw [if_neg h, if_neg (by omega), if_neg h]
theorem has_tells (a b t : Int) : drift_Has.f a b t = some (decide (okIv a b ∧ a ≤ t ∧ t ≤ b)) := by
  unfold drift_Has.f
  rw [check_tells]
  simp only [Option.bind_some]
  by_cases h : okIv a b
  · rw [if_pos h, if_pos rfl]
    by_cases h2 : a ≤ t
    · rw [if_pos h2]; simp [h, h2]
    · rw [if_neg h2]; simp [h2]
  · rw [if_neg h, if_neg (by omega)]; simp [h]
end Go.Proofs.Ytjbjkjlfikfeeaa.Pure
