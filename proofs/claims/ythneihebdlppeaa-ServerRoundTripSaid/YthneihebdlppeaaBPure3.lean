/- MulDiv, the program's: the quotient of a * b by c, rounded down, where it is an int, and 0 and false otherwise. -/
import Derived.Test.YthneihebdlppeaaBPure
namespace Go.Proofs.Ythneihebdlppeaa.B
open Go.RowKit Go.Proofs.YthneihebdlppeaaW.PrintWords Go.Proofs.YthneihebdlppeaaW.PrintLast Go.Proofs.YthneihebdlppeaaW.PrintMore

/-- Is a number one of the type int? -/
def isI64 (x : Int) : Prop := -9223372036854775808 ≤ x ∧ x ≤ 9223372036854775807
instance (x : Int) : Decidable (isI64 x) := by unfold isI64; infer_instance

/-- The quotient of a product, rounded down, if it is an int. -/
def floorQ (n c : Int) : Int := if 0 < c then n / c else (-n) / (-c)
def fitI (q : Int) : Int × Bool := if isI64 q then (q, true) else (0, false)
def mulDiv (a b c : Int) : Int × Bool := if c = 0 then (0, false) else fitI (floorQ (a * b) c)

theorem fitI_yes {q : Int} (h0 : -9223372036854775808 ≤ q) (h1 : q ≤ 9223372036854775807) : fitI q = (q, true) := if_pos ⟨h0, h1⟩
theorem fitI_no {q : Int} (h : q < -9223372036854775808 ∨ 9223372036854775807 < q) : fitI q = (0, false) := if_neg (by unfold isI64; omega)

/-- The absolute value. -/
def mag (x : Int) : Int := if x < 0 then -x else x
theorem size_pure {a : Int} (h : isI64 a) : fixed_size.f a = some (mag a) := by
  obtain ⟨h0, h1⟩ := h
  unfold fixed_size.f mag
  by_cases ha : a < 0
  · rw [if_pos ha, if_pos ha]; simp only [IntKind.wrap_u64]; congr 1; omega
  · rw [if_neg ha, if_neg ha]; simp only [IntKind.wrap_u64]; congr 1; omega
theorem mag_u64 {a : Int} (h : isI64 a) : isU64 (mag a) := by unfold isU64 mag; obtain ⟨h0, h1⟩ := h; split <;> omega
theorem mag_le {a : Int} (h : isI64 a) : 0 ≤ mag a ∧ mag a ≤ 9223372036854775808 := by unfold mag; obtain ⟨h0, h1⟩ := h; split <;> omega

/-- The sign of the exact quotient. -/
def neg3 (a b c : Int) : Bool := ((decide (a < 0) != decide (b < 0)) != decide (c < 0))
/-- The rounded quotient out of the quotient of the absolute values. -/
theorem floorQ_mag {a b c : Int} (hc : c ≠ 0) : floorQ (a * b) c = if neg3 a b c = true then -(mag a * mag b / mag c) - (if mag a * mag b % mag c = 0 then 0 else 1) else mag a * mag b / mag c := by
  have hm : 0 < mag c := by unfold mag; split <;> omega
  have key : ∀ n : Int, (-n) / mag c = -(n / mag c) - (if n % mag c = 0 then 0 else 1) := by
    intro n
    have h1 := quo_rem n (mag c)
    have h2 : 0 ≤ n % mag c := Int.emod_nonneg _ (by omega)
    have h3 : n % mag c < mag c := Int.emod_lt_of_pos _ hm
    by_cases hz : n % mag c = 0
    · rw [if_pos hz]
      have : -n = mag c * (-(n / mag c)) := by rw [Int.mul_neg, Int.mul_comm]; omega
      rw [this, Int.mul_ediv_cancel_left _ (by omega)]; omega
    · rw [if_neg hz]
      refine ((Int.ediv_emod_unique (r := mag c - n % mag c) hm).mpr ⟨?_, by omega, by omega⟩).1
      rw [Int.mul_sub, Int.mul_neg, Int.mul_comm (mag c) (n / mag c)]; omega
  have hn : (neg3 a b c = true ∧ (if 0 < c then a * b else -(a * b)) = -(mag a * mag b)) ∨ (neg3 a b c = false ∧ (if 0 < c then a * b else -(a * b)) = mag a * mag b) := by
    unfold neg3 mag
    by_cases ha : a < 0 <;> by_cases hb : b < 0 <;> by_cases h : c < 0 <;>
      simp [ha, hb, h, Int.neg_mul, Int.mul_neg, show (0 < c) = ¬ c < 0 from by simp; omega]
  have hf : floorQ (a * b) c = (if 0 < c then a * b else -(a * b)) / mag c := by
    unfold floorQ mag
    by_cases h : 0 < c
    · rw [if_pos h, if_pos h, if_neg (by omega)]
    · rw [if_neg h, if_neg h, if_pos (by omega)]
  rcases hn with ⟨h1, h2⟩ | ⟨h1, h2⟩
  · rw [hf, h2, key, h1, if_pos rfl]
  · rw [hf, h2, h1]; simp

theorem fits_neg {q : Int} (h0 : 0 ≤ q) (h1 : q ≤ 18446744073709551615) : fixed_signed.f q true = some (fitI (-q)) := by
  unfold fixed_signed.f
  rw [if_pos rfl]
  by_cases h : q > 9223372036854775808
  · rw [if_pos h, fitI_no (by omega)]
  · rw [if_neg h, fitI_yes (by omega) (by omega), IntKind.wrap_u64]; unfold wrap64; congr 2; omega
theorem fits_pos {q : Int} (h0 : 0 ≤ q) : fixed_signed.f q false = some (fitI q) := by
  unfold fixed_signed.f
  rw [if_neg (by simp)]
  by_cases h : q ≥ 9223372036854775808
  · rw [if_pos h, fitI_no (by omega)]
  · rw [if_neg h, fitI_yes (by omega) (by omega)]; unfold wrap64; congr 2; omega
/-- The printed functions' tails. -/
def tailN (q s : Int) : Option (Int × Bool) := if s = 0 then (fixed_signed.f q true).bind fun bt => some (bt.1, bt.2) else if IntKind.u64.wrap (q + 1) = 0 then some (0, false) else (fixed_signed.f (IntKind.u64.wrap (q + 1)) true).bind fun bt => some (bt.1, bt.2)
def tailP (q : Int) : Option (Int × Bool) := (fixed_signed.f q false).bind fun bt => some (bt.1, bt.2)
theorem tailN_tells {q s : Int} (h0 : 0 ≤ q) (h1 : q ≤ 18446744073709551615) : tailN q s = some (fitI (-q - (if s = 0 then 0 else 1))) := by
  unfold tailN
  by_cases hs : s = 0
  · rw [if_pos hs, if_pos hs, fits_neg h0 h1]; simp
  · rw [if_neg hs, if_neg hs]
    by_cases hq : q = 18446744073709551615
    · subst hq; decide
    · rw [u64w (by omega) (by omega), if_neg (by omega), fits_neg (by omega) (by omega)]
      simp only [Option.bind_some]
      rw [show -(q + 1) = -q - 1 by omega]
theorem tailP_tells {q : Int} (h0 : 0 ≤ q) : tailP q = some (fitI q) := by unfold tailP; rw [fits_pos h0]; simp
theorem signs_tell (a b c : Int) (N P : Option (Int × Bool)) : (if a < 0 then (if b < 0 then (if c < 0 then N else P) else (if c < 0 then P else N)) else (if b < 0 then (if c < 0 then P else N) else (if c < 0 then N else P))) = if neg3 a b c = true then N else P := by
  unfold neg3
  by_cases ha : a < 0 <;> by_cases hb : b < 0 <;> by_cases hc : c < 0 <;> simp [ha, hb, hc]

theorem mulDiv_pure {a b c : Int} (ha : isI64 a) (hb : isI64 b) (hc : isI64 c) : ∃ k, fixed_MulDiv.f k a b c = some (mulDiv a b c) := by
  have hA := mag_le ha; have hB := mag_le hb; have hC := mag_le hc
  have hAB : 0 ≤ mag a * mag b := Int.mul_nonneg hA.1 hB.1
  have hAB1 : mag a * mag b ≤ 9223372036854775808 * 9223372036854775808 := Int.mul_le_mul hA.2 hB.2 hB.1 (by omega)
  have start : ∀ k, fixed_MulDiv.f k a b c = if mag a * mag b / 18446744073709551616 ≥ mag c then some (0, false) else (bits_Div64.f k (mag a * mag b / 18446744073709551616) (mag a * mag b % 18446744073709551616) (mag c)).bind fun bt => if neg3 a b c = true then tailN bt.1 bt.2 else tailP bt.1 := by
    intro k
    unfold fixed_MulDiv.f
    rw [size_pure ha, size_pure hb, size_pure hc]
    simp only [Option.bind_some]
    unfold bits_Mul64.f
    rw [if_pos ⟨mag_u64 ha, mag_u64 hb⟩]
    simp only [Option.bind_some, ← signs_tell]
    rfl
  by_cases hge : mag a * mag b / 18446744073709551616 ≥ mag c
  · refine ⟨0, ?_⟩
    rw [start, if_pos hge]
    unfold mulDiv
    by_cases h0 : c = 0
    · rw [if_pos h0]
    · rw [if_neg h0, floorQ_mag h0]
      have hm : 0 < mag c := by unfold mag; split <;> omega
      have hq : 18446744073709551616 ≤ mag a * mag b / mag c := dig_ge hm (by omega)
      generalize mag a * mag b / mag c = q at *
      rw [fitI_no (by split <;> (try split) <;> omega)]
  · have h0 : c ≠ 0 := by
      intro e; subst e
      have : mag 0 = 0 := by decide
      omega
    have hm : 0 < mag c := by unfold mag; split <;> omega
    obtain ⟨k, hk⟩ := div64_pure (hi := mag a * mag b / 18446744073709551616) (lo := mag a * mag b % 18446744073709551616) (y := mag c) ⟨by omega, by omega⟩ ⟨by omega, by omega⟩ (mag_u64 hc) (by omega)
    refine ⟨k, ?_⟩
    rw [start, if_neg hge, hk]
    simp only [Option.bind_some]
    have e : mag a * mag b / 18446744073709551616 * 18446744073709551616 + mag a * mag b % 18446744073709551616 = mag a * mag b := by omega
    rw [e]
    have hq0 : 0 ≤ mag a * mag b / mag c := Int.ediv_nonneg hAB (by omega)
    have hq1 : mag a * mag b / mag c < 18446744073709551616 := Int.ediv_lt_of_lt_mul hm (by omega)
    rw [tailN_tells hq0 (by omega), tailP_tells hq0]
    unfold mulDiv
    rw [if_neg h0, floorQ_mag h0]
    split <;> rfl

end Go.Proofs.Ythneihebdlppeaa.B
