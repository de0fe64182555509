/- Texts of this claim, laid together: each says itself what it proves. -/
import Derived.Test.YtjbjkjlfikfeeaaM11
import Derived.Laws.MathBits
import Derived.Laws.BitsAllLaws
import Derived.Test.YtjbjkjlfikfeeaaM1
/- bits.Div64 over whole numbers: the printed function answers with quotient and remainder of two words by one; for words, the upper one being less than the divisor. -/
namespace Go.Proofs.Ytjbjkjlfikfeeaa.B
open Go.RowKit Go.Proofs.YtjbjkjlfikfeeaaW.PrintWords Go.Proofs.YtjbjkjlfikfeeaaW.PrintLast Go.Proofs.YtjbjkjlfikfeeaaW.PrintMore

theorem u64w {x : Int} (h0 : 0 ≤ x) (h1 : x < 18446744073709551616) : IntKind.u64.wrap x = x := by rw [IntKind.wrap_u64]; omega
theorem i64w {x : Int} (h0 : -9223372036854775808 ≤ x) (h1 : x < 9223372036854775808) : wrap64 x = x := by unfold wrap64; omega

/-! ### one digit of the long division -/
section
variable {Y a b U u q r : Int}
theorem dig_prod (hY : Y = a * 4294967296 + b) (q : Int) : q * Y = (q * a) * 4294967296 + q * b := by rw [hY, Int.mul_add, Int.mul_assoc]
theorem dig_lt (hU : U < Y) (hu : u < 4294967296) (h0 : 0 ≤ U) : (U * 4294967296 + u) / Y < 4294967296 :=
  Int.ediv_lt_of_lt_mul (by omega) (by omega)
theorem dig_ge {n : Int} (hY : 0 < Y) (h : q * Y ≤ n) : q ≤ n / Y := Int.le_ediv_of_mul_le hY h
theorem dig_down (hY : Y = a * 4294967296 + b) (hU : U < Y) (hu : u < 4294967296) (h0 : 0 ≤ U) (hq : q * a + r = U) (hc : 4294967296 ≤ q ∨ r * 4294967296 + u < q * b) : (U * 4294967296 + u) / Y ≤ q - 1 := by
  have h1 := dig_lt hU hu h0
  rcases hc with hc | hc
  · omega
  · have h2 := dig_prod hY q
    have : (U * 4294967296 + u) / Y < q := Int.ediv_lt_of_lt_mul (by omega) (by omega)
    omega
theorem dig_step (hq : q * a + r = U) : (q - 1) * a + (r + a) = U := by rw [Int.sub_mul]; omega
theorem dig_stop (hY : Y = a * 4294967296 + b) (hU : U < Y) (ha : 0 < a) (hb0 : 0 ≤ b) (hb : b < 4294967296) (hu : 0 ≤ u) (hq0 : 0 ≤ q) (hq : q * a + r = U) (hr : 4294967296 ≤ r) : q ≤ (U * 4294967296 + u) / Y := by
  refine dig_ge (by omega) ?_
  rw [dig_prod hY q]
  have h1 : q < 4294967296 := by
    apply Int.lt_of_mul_lt_mul_right (a := a) _ (by omega)
    omega
  have h2 : q * b ≤ 4294967296 * 4294967296 := Int.mul_le_mul (by omega) (by omega) hb0 (by omega)
  omega
theorem dig_end (hY : Y = a * 4294967296 + b) (hY0 : 0 < Y) (hq : q * a + r = U) (hc : q * b ≤ r * 4294967296 + u) : q ≤ (U * 4294967296 + u) / Y := by
  refine dig_ge hY0 ?_
  rw [dig_prod hY q]
  omega
theorem prod_lt {p b : Int} (hp0 : 0 ≤ p) (hp : p < 4294967296) (hb0 : 0 ≤ b) (hb : b < 4294967296) : 0 ≤ p * b ∧ p * b < 18446744073709551616 := by
  have := prod_bound p b hp0 (by omega) hb0 (by omega)
  omega
end

theorem l0_tells {Y s a b U u1 u0 : Int} (hY : Y = a * 4294967296 + b) (ha0 : 0 < a) (ha : a < 4294967296) (hb0 : 0 ≤ b) (hb : b < 4294967296) (hU0 : 0 ≤ U) (hU : U < Y) (hu0 : 0 ≤ u1) (hu : u1 < 4294967296) :
    ∀ (m k : Nat) (q r : Int), q * a + r = U → 0 ≤ r → r < 4294967296 → 0 ≤ q → q < 18446744073709551616 → (U * 4294967296 + u1) / Y ≤ q → 4294967296 - r ≤ m → m < k →
      ∃ k', k ≤ k' + (m + 1) ∧ bits_Div64.l0 k Y s a b U u1 u0 q r = bits_Div64.j1 k' Y s a b U u1 u0 ((U * 4294967296 + u1) / Y) := by
  intro m
  induction m with
  | zero => intro k q r _ _ hr _ _ _ hm _; omega
  | succ m ih =>
    intro k q r hq hr0 hr hq0 hq1 hQ hm hk
    obtain ⟨k, rfl⟩ : ∃ n, k = n + 1 := ⟨k - 1, by omega⟩
    have hQ0 : 0 ≤ (U * 4294967296 + u1) / Y := Int.ediv_nonneg (by omega) (by omega)
    by_cases hc : 4294967296 ≤ q ∨ r * 4294967296 + u1 < q * b
    · have hd := dig_down hY hU hu hU0 hq hc
      have hs := dig_step hq
      have w1 : IntKind.u64.wrap (r + a) = r + a := u64w (by omega) (by omega)
      have w2 : IntKind.u64.wrap (q - 1) = q - 1 := u64w (by omega) (by omega)
      have hgo : ∃ k', k + 1 ≤ k' + (m + 1 + 1) ∧ (if IntKind.u64.wrap (r + a) ≥ 4294967296 then bits_Div64.j1 k Y s a b U u1 u0 (IntKind.u64.wrap (q - 1)) else bits_Div64.l0 k Y s a b U u1 u0 (IntKind.u64.wrap (q - 1)) (IntKind.u64.wrap (r + a))) = bits_Div64.j1 k' Y s a b U u1 u0 ((U * 4294967296 + u1) / Y) := by
        rw [w1, w2]
        by_cases hb2 : r + a ≥ 4294967296
        · have hz := dig_stop (u := u1) hY hU ha0 hb0 hb hu0 (by omega) hs hb2
          rw [if_pos hb2]
          exact ⟨k, by omega, by rw [show q - 1 = (U * 4294967296 + u1) / Y by omega]⟩
        · rw [if_neg hb2]
          obtain ⟨k', h1, h2⟩ := ih k (q - 1) (r + a) hs (by omega) (by omega) (by omega) (by omega) hd (by omega) (by omega)
          exact ⟨k', by omega, h2⟩
      simp only [bits_Div64.l0]
      by_cases h1 : q ≥ 4294967296
      · rw [if_pos h1]; exact hgo
      · rw [if_neg h1]
        have h2 : r * 4294967296 + u1 < q * b := by omega
        have hp := prod_lt (p := q) (b := b) hq0 (by omega) hb0 hb
        have w3 : IntKind.u64.wrap (q * b) = q * b := u64w hp.1 hp.2
        have w4 : IntKind.u64.wrap (4294967296 * r) = 4294967296 * r := u64w (by omega) (by omega)
        have w5 : IntKind.u64.wrap (4294967296 * r + u1) = 4294967296 * r + u1 := u64w (by omega) (by omega)
        rw [w3, w4, w5, if_pos (by omega)]
        exact hgo
    · have h1 : ¬ q ≥ 4294967296 := by omega
      have hp := prod_lt (p := q) (b := b) hq0 (by omega) hb0 hb
      have w3 : IntKind.u64.wrap (q * b) = q * b := u64w hp.1 hp.2
      have w4 : IntKind.u64.wrap (4294967296 * r) = 4294967296 * r := u64w (by omega) (by omega)
      have w5 : IntKind.u64.wrap (4294967296 * r + u1) = 4294967296 * r + u1 := u64w (by omega) (by omega)
      have hz := dig_end (u := u1) hY (by omega) hq (by omega)
      simp only [bits_Div64.l0]
      rw [if_neg h1, w3, w4, w5, if_neg (by omega)]
      exact ⟨k, by omega, by rw [show q = (U * 4294967296 + u1) / Y by omega]⟩

/-- What the second loop ends with. -/
def ends (Y s q1 U u q : Int) : Option (Int × Int) := if 0 ≤ s then some (IntKind.u64.wrap (IntKind.u64.wrap (q1 * 4294967296) + q), shr .u64 (IntKind.u64.wrap (IntKind.u64.wrap (IntKind.u64.wrap (U * 4294967296) + u) - IntKind.u64.wrap (q * Y))) s) else none
theorem l1_tells {Y s a b U u q1 : Int} (hY : Y = a * 4294967296 + b) (ha0 : 0 < a) (ha : a < 4294967296) (hb0 : 0 ≤ b) (hb : b < 4294967296) (hU0 : 0 ≤ U) (hU : U < Y) (hu0 : 0 ≤ u) (hu : u < 4294967296) :
    ∀ (m k : Nat) (q r : Int), q * a + r = U → 0 ≤ r → r < 4294967296 → 0 ≤ q → q < 18446744073709551616 → (U * 4294967296 + u) / Y ≤ q → 4294967296 - r ≤ m → m < k →
      bits_Div64.l1 k Y s a b u q1 r U q = ends Y s q1 U u ((U * 4294967296 + u) / Y) := by
  intro m
  induction m with
  | zero => intro k q r _ _ hr _ _ _ hm _; omega
  | succ m ih =>
    intro k q r hq hr0 hr hq0 hq1 hQ hm hk
    obtain ⟨k, rfl⟩ : ∃ n, k = n + 1 := ⟨k - 1, by omega⟩
    have hQ0 : 0 ≤ (U * 4294967296 + u) / Y := Int.ediv_nonneg (by omega) (by omega)
    by_cases hc : 4294967296 ≤ q ∨ r * 4294967296 + u < q * b
    · have hd := dig_down hY hU hu hU0 hq hc
      have hs := dig_step hq
      have w1 : IntKind.u64.wrap (r + a) = r + a := u64w (by omega) (by omega)
      have w2 : IntKind.u64.wrap (q - 1) = q - 1 := u64w (by omega) (by omega)
      have hgo : (if IntKind.u64.wrap (r + a) ≥ 4294967296 then ends Y s q1 U u (IntKind.u64.wrap (q - 1)) else bits_Div64.l1 k Y s a b u q1 (IntKind.u64.wrap (r + a)) U (IntKind.u64.wrap (q - 1))) = ends Y s q1 U u ((U * 4294967296 + u) / Y) := by
        rw [w1, w2]
        by_cases hb2 : r + a ≥ 4294967296
        · have hz := dig_stop (u := u) hY hU ha0 hb0 hb hu0 (by omega) hs hb2
          rw [if_pos hb2, show q - 1 = (U * 4294967296 + u) / Y by omega]
        · rw [if_neg hb2]
          exact ih k (q - 1) (r + a) hs (by omega) (by omega) (by omega) (by omega) hd (by omega) (by omega)
      simp only [bits_Div64.l1]
      by_cases h1 : q ≥ 4294967296
      · rw [if_pos h1]; exact hgo
      · rw [if_neg h1]
        have h2 : r * 4294967296 + u < q * b := by omega
        have hp := prod_lt (p := q) (b := b) hq0 (by omega) hb0 hb
        have w3 : IntKind.u64.wrap (q * b) = q * b := u64w hp.1 hp.2
        have w4 : IntKind.u64.wrap (4294967296 * r) = 4294967296 * r := u64w (by omega) (by omega)
        have w5 : IntKind.u64.wrap (4294967296 * r + u) = 4294967296 * r + u := u64w (by omega) (by omega)
        rw [w3, w4, w5, if_pos (by omega)]
        exact hgo
    · have h1 : ¬ q ≥ 4294967296 := by omega
      have hp := prod_lt (p := q) (b := b) hq0 (by omega) hb0 hb
      have w3 : IntKind.u64.wrap (q * b) = q * b := u64w hp.1 hp.2
      have w4 : IntKind.u64.wrap (4294967296 * r) = 4294967296 * r := u64w (by omega) (by omega)
      have w5 : IntKind.u64.wrap (4294967296 * r + u) = 4294967296 * r + u := u64w (by omega) (by omega)
      have hz := dig_end (u := u) hY (by omega) hq (by omega)
      simp only [bits_Div64.l1]
      rw [if_neg h1, w3, w4, w5, if_neg (by omega), show q = (U * 4294967296 + u) / Y by omega]
      rfl

theorem dig_start {Y a b U u : Int} (hY : Y = a * 4294967296 + b) (ha0 : 0 < a) (hb0 : 0 ≤ b) (hU0 : 0 ≤ U) (_hu0 : 0 ≤ u) (_hu : u < 4294967296) : (U * 4294967296 + u) / Y ≤ U / a := by
  have hQ0 : 0 ≤ (U * 4294967296 + u) / Y := Int.ediv_nonneg (by omega) (by omega)
  generalize hq : (U * 4294967296 + u) / Y = q at *
  refine dig_ge ha0 ?_
  have h1 : q * Y ≤ U * 4294967296 + u := by rw [← hq]; exact Int.ediv_mul_le _ (by omega)
  rw [dig_prod hY q] at h1
  have h2 : 0 ≤ q * b := Int.mul_nonneg hQ0 hb0
  omega
theorem quo_rem (x a : Int) : x / a * a + x % a = x := by rw [Int.mul_comm]; exact Int.mul_ediv_add_emod x a
theorem rest_rem (x a : Int) : x - x / a * a = x % a := by have := quo_rem x a; omega
/-- The second word of the division. -/
theorem j1_tells {Y s a b U u1 u0 : Int} (hY : Y = a * 4294967296 + b) (ha0 : 0 < a) (ha : a < 4294967296) (hb0 : 0 ≤ b) (hb : b < 4294967296) (hU0 : 0 ≤ U) (hU : U < Y) (_hu0 : 0 ≤ u1) (_hu : u1 < 4294967296) (hv0 : 0 ≤ u0) (hv : u0 < 4294967296)
    (k : Nat) (hk : 4294967299 < k) : bits_Div64.j1 k Y s a b U u1 u0 ((U * 4294967296 + u1) / Y) = ends Y s ((U * 4294967296 + u1) / Y) ((U * 4294967296 + u1) % Y) u0 (((U * 4294967296 + u1) % Y * 4294967296 + u0) / Y) := by
  obtain ⟨k, rfl⟩ : ∃ n, k = n + 1 := ⟨k - 1, by omega⟩
  have hYl : Y < 18446744073709551616 := by omega
  have hR0 : 0 ≤ (U * 4294967296 + u1) % Y := Int.emod_nonneg _ (by omega)
  have hR1 : (U * 4294967296 + u1) % Y < Y := Int.emod_lt_of_pos _ (by omega)
  have hrr := rest_rem (U * 4294967296 + u1) Y
  have w : IntKind.u64.wrap (IntKind.u64.wrap (IntKind.u64.wrap (U * 4294967296) + u1) - IntKind.u64.wrap ((U * 4294967296 + u1) / Y * Y)) = (U * 4294967296 + u1) % Y := by
    simp only [IntKind.wrap_u64]
    generalize (U * 4294967296 + u1) / Y * Y = p at *
    omega
  simp only [bits_Div64.j1]
  rw [if_neg (by omega), w]
  generalize hR : (U * 4294967296 + u1) % Y = R at *
  have e1 : R.tdiv a = R / a := Int.tdiv_eq_ediv_of_nonneg hR0
  have hd0 : 0 ≤ R / a := Int.ediv_nonneg hR0 (by omega)
  have hd1 : R / a ≤ R := Int.ediv_le_self a hR0
  have hm0 : 0 ≤ R % a := Int.emod_nonneg _ (by omega)
  have hm1 : R % a < a := Int.emod_lt_of_pos _ ha0
  have hqr := quo_rem R a
  have hj : 0 ≤ R / a * a := Int.mul_nonneg hd0 (by omega)
  have w2 : IntKind.u64.wrap (R / a) = R / a := u64w hd0 (by omega)
  have w3 : IntKind.u64.wrap (R / a * a) = R / a * a := u64w (by omega) (by omega)
  have w4 : IntKind.u64.wrap (R - R / a * a) = R % a := by rw [rest_rem]; exact u64w hm0 (by omega)
  rw [e1, w2, w3, w4]
  exact l1_tells hY ha0 ha hb0 hb hR0 hR1 hv0 hv 4294967296 k (R / a) (R % a) hqr hm0 (by omega) hd0 (by omega) (dig_start hY ha0 hb0 hR0 hv0 hv) (by omega) (by omega)

theorem two_digits {Y U u1 u0 : Int} (hY : 0 < Y) : (U * 18446744073709551616 + u1 * 4294967296 + u0) / Y = (U * 4294967296 + u1) / Y * 4294967296 + ((U * 4294967296 + u1) % Y * 4294967296 + u0) / Y ∧
    (U * 18446744073709551616 + u1 * 4294967296 + u0) % Y = ((U * 4294967296 + u1) % Y * 4294967296 + u0) % Y := by
  have h1 := quo_rem (U * 4294967296 + u1) Y
  have h2 := quo_rem ((U * 4294967296 + u1) % Y * 4294967296 + u0) Y
  have h3 : 0 ≤ ((U * 4294967296 + u1) % Y * 4294967296 + u0) % Y := Int.emod_nonneg _ (by omega)
  have h4 : ((U * 4294967296 + u1) % Y * 4294967296 + u0) % Y < Y := Int.emod_lt_of_pos _ hY
  generalize ((U * 4294967296 + u1) % Y * 4294967296 + u0) % Y = r0 at *
  generalize ((U * 4294967296 + u1) % Y * 4294967296 + u0) / Y = q0 at *
  generalize (U * 4294967296 + u1) % Y = r1 at *
  generalize (U * 4294967296 + u1) / Y = q1 at *
  refine (Int.ediv_emod_unique hY).mpr ⟨?_, h3, h4⟩
  have h5 : Y * (q1 * 4294967296 + q0) = q1 * Y * 4294967296 + q0 * Y := by rw [Int.mul_add, Int.mul_comm Y q0, ← Int.mul_assoc, Int.mul_comm Y q1]
  omega

theorem shl_nat (x s : Nat) (hs : s ≤ 64) (h : x * 2 ^ s < 18446744073709551616) : shl .u64 (x : Int) (s : Int) = ((x * 2 ^ s : Nat) : Int) := by
  unfold shl
  have e : min (s : Int).toNat IntKind.u64.bits = s := by simp [IntKind.bits]; omega
  rw [e]
  have e2 : ((x : Int) * 2 ^ s) = ((x * 2 ^ s : Nat) : Int) := by push_cast; rfl
  rw [e2]; exact u64w (by omega) (by omega)
theorem shl_nat' (x s : Nat) (hs : s ≤ 64) : shl .u64 (x : Int) (s : Int) = ((x * 2 ^ s % 18446744073709551616 : Nat) : Int) := by
  unfold shl
  have e : min (s : Int).toNat IntKind.u64.bits = s := by simp [IntKind.bits]; omega
  rw [e]
  have e2 : ((x : Int) * 2 ^ s) = ((x * 2 ^ s : Nat) : Int) := by push_cast; rfl
  rw [e2, IntKind.wrap_u64, Int.natCast_emod]; rfl
theorem shr_nat (x s : Nat) (hs : s ≤ 64) : shr .u64 (x : Int) (s : Int) = ((x / 2 ^ s : Nat) : Int) := by
  unfold shr
  have e : min (s : Int).toNat IntKind.u64.bits = s := by simp [IntKind.bits]; omega
  rw [e, Int.natCast_ediv]; push_cast; rfl

theorem bitAux_spec : ∀ (f x : Nat), x < 2 ^ f → x < 2 ^ Lib.bitLenAux f x ∧ (x ≠ 0 → 2 ^ (Lib.bitLenAux f x - 1) ≤ x)
  | 0, x, h => by
    have : x = 0 := by simpa using h
    subst this
    simp [Lib.bitLenAux]
  | f + 1, x, h => by
    simp only [Lib.bitLenAux]
    by_cases hx : x = 0
    · subst hx; simp
    · rw [if_neg hx]
      obtain ⟨h1, h2⟩ := bitAux_spec f (x / 2) (by rw [Nat.pow_succ] at h; omega)
      have h3 : x / 2 = 0 → Lib.bitLenAux f (x / 2) = 0 := by intro e; rw [e]; cases f <;> simp [Lib.bitLenAux]
      generalize Lib.bitLenAux f (x / 2) = n at *
      refine ⟨by rw [Nat.add_comm, Nat.pow_succ]; omega, fun _ => ?_⟩
      rw [show 1 + n - 1 = n by omega]
      cases n with
      | zero => have : (2 : Nat) ^ 0 = 1 := rfl; omega
      | succ n =>
        have h2 := h2 (fun e => by have := h3 e; omega)
        rw [show n + 1 - 1 = n by omega] at h2
        rw [Nat.pow_succ]; omega
/-- The divisor, moved up to the top of its word. -/
theorem top_word (y : Nat) (h0 : 0 < y) (h1 : y < 18446744073709551616) : ∃ s : Nat, s ≤ 63 ∧ Lib.bitLen y = 64 - s ∧ 9223372036854775808 ≤ y * 2 ^ s ∧ y * 2 ^ s < 18446744073709551616 := by
  obtain ⟨h2, h3⟩ := bitAux_spec 64 y (by omega)
  change y < 2 ^ Lib.bitLen y at h2
  change y ≠ 0 → 2 ^ (Lib.bitLen y - 1) ≤ y at h3
  have h4 : Lib.bitLen y ≤ 64 := Lib.bitLen_le y 64 (by omega) (by omega)
  have h5 : Lib.bitLen y ≠ 0 := by intro e; rw [e] at h2; omega
  have h3 := h3 (by omega)
  refine ⟨64 - Lib.bitLen y, by omega, by omega, ?_, ?_⟩
  · have : (2 : Nat) ^ 63 = 2 ^ (Lib.bitLen y - 1) * 2 ^ (64 - Lib.bitLen y) := by rw [← Nat.pow_add]; congr 1; omega
    have h6 := Nat.mul_le_mul_right (2 ^ (64 - Lib.bitLen y)) h3
    have h7 : (2 : Nat) ^ 63 = 9223372036854775808 := by decide
    omega
  · have : (2 : Nat) ^ 64 = 2 ^ (Lib.bitLen y) * 2 ^ (64 - Lib.bitLen y) := by rw [← Nat.pow_add]; congr 1; omega
    have h6 := (Nat.mul_lt_mul_right (a := 2 ^ (64 - Lib.bitLen y)) (Nat.two_pow_pos _)).mpr h2
    have h7 : (2 : Nat) ^ 64 = 18446744073709551616 := by decide
    omega

theorem div64_words (hi lo y : Nat) (hlo : lo < 18446744073709551616) (hy : y < 18446744073709551616) (hlt : hi < y) (hpos : 0 < hi) :
    ∃ k, bits_Div64.f k hi lo y = some ((((hi * 18446744073709551616 + lo) / y : Nat) : Int), (((hi * 18446744073709551616 + lo) % y : Nat) : Int)) := by
  obtain ⟨s, hs, hbl, hY0, hY1⟩ := top_word y (by omega) hy
  have hPC : (2 : Nat) ^ s * 2 ^ (64 - s) = 18446744073709551616 := by rw [← Nat.pow_add, show s + (64 - s) = 64 by omega]
  have hP : 0 < 2 ^ s := Nat.two_pow_pos s
  have hC : 0 < 2 ^ (64 - s) := Nat.two_pow_pos _
  have hhi : hi * 2 ^ s < y * 2 ^ s := (Nat.mul_lt_mul_right hP).mpr hlt
  have hlop : lo * 2 ^ s / 18446744073709551616 = lo / 2 ^ (64 - s) := by rw [← hPC, Nat.mul_comm (2 ^ s)]; exact Nat.mul_div_mul_right _ _ hP
  have hloq : lo / 2 ^ (64 - s) < 2 ^ s := by
    rw [Nat.div_lt_iff_lt_mul hC, hPC]; exact hlo
  have hor : hi * 2 ^ s ||| lo / 2 ^ (64 - s) = hi * 2 ^ s + lo / 2 ^ (64 - s) := nat_join s _ _ (Nat.mul_mod_left _ _) hloq
  have hsum : (hi * 18446744073709551616 + lo) * 2 ^ s = (hi * 2 ^ s + lo / 2 ^ (64 - s)) * 18446744073709551616 + lo * 2 ^ s % 18446744073709551616 := by
    have := Nat.div_add_mod (lo * 2 ^ s) 18446744073709551616
    rw [hlop] at this
    rw [Nat.add_mul, Nat.add_mul]
    have e : hi * 18446744073709551616 * 2 ^ s = hi * 2 ^ s * 18446744073709551616 := Nat.mul_right_comm _ _ _
    omega
  have hUY : hi * 2 ^ s + lo / 2 ^ (64 - s) < y * 2 ^ s := by
    have h1 : hi * 2 ^ s + 2 ^ s ≤ y * 2 ^ s := by
      have := Nat.mul_le_mul_right (2 ^ s) (show hi + 1 ≤ y by omega)
      rwa [Nat.add_mul, Nat.one_mul] at this
    omega
  have hL : lo * 2 ^ s % 18446744073709551616 < 18446744073709551616 := Nat.mod_lt _ (by omega)
  -- the quotient and the remainder of the moved words
  have hquo : ((hi * 18446744073709551616 + lo) * 2 ^ s) / (y * 2 ^ s) = (hi * 18446744073709551616 + lo) / y := Nat.mul_div_mul_right _ _ hP
  have hrem : ((hi * 18446744073709551616 + lo) * 2 ^ s) % (y * 2 ^ s) / 2 ^ s = (hi * 18446744073709551616 + lo) % y := by
    rw [Nat.mul_mod_mul_right, Nat.mul_div_cancel _ hP]
  rw [hsum] at hquo hrem
  have hq64 : (hi * 18446744073709551616 + lo) / y < 18446744073709551616 := by
    rw [Nat.div_lt_iff_lt_mul (by omega)]; omega
  have hr64 : (hi * 18446744073709551616 + lo) % y < y := Nat.mod_lt _ (by omega)
  -- names
  have ey : shl .u64 (y : Int) (s : Int) = ((y * 2 ^ s : Nat) : Int) := shl_nat y s (by omega) hY1
  have eh : shl .u64 (hi : Int) (s : Int) = ((hi * 2 ^ s : Nat) : Int) := shl_nat hi s (by omega) (by omega)
  have el : shl .u64 (lo : Int) (s : Int) = ((lo * 2 ^ s % 18446744073709551616 : Nat) : Int) := shl_nat' lo s (by omega)
  have er : shr .u64 (lo : Int) ((64 - s : Nat) : Int) = ((lo / 2 ^ (64 - s) : Nat) : Int) := shr_nat lo (64 - s) (by omega)
  have w1 : IntKind.u64.wrap (64 - (Lib.bitLen y : Int)) = (s : Int) := by rw [hbl]; rw [u64w (by omega) (by omega)]; omega
  have w2 : IntKind.u64.wrap (64 - (s : Int)) = ((64 - s : Nat) : Int) := by rw [u64w (by omega) (by omega)]; omega
  have w3 : Go.bits .or .u64 ((hi * 2 ^ s : Nat) : Int) ((lo / 2 ^ (64 - s) : Nat) : Int) = ((hi * 2 ^ s + lo / 2 ^ (64 - s) : Nat) : Int) := by
    rw [u64_or_nat _ _ (by omega) (by omega), hor]
  refine ⟨8589934600, ?_⟩
  unfold bits_Div64.f bits_LeadingZeros64.f
  rw [if_neg (by omega), if_neg (by omega), if_neg (by omega), if_pos (show isU64 (y : Int) from ⟨by omega, by omega⟩)]
  simp only [Option.bind_some, Int.toNat_natCast]
  rw [w1, w2, if_pos (by omega), if_pos (by omega), ey, eh, el, er, w3]
  generalize hYn : y * 2 ^ s = Y at *
  generalize hUn : hi * 2 ^ s + lo / 2 ^ (64 - s) = U at *
  generalize hLn : lo * 2 ^ s % 18446744073709551616 = L at *
  rw [and_low32 _ (by omega) (by omega), and_low32 _ (by omega) (by omega)]
  have hYe : (Y : Int) = (Y : Int) / 4294967296 * 4294967296 + (Y : Int) % 4294967296 := by omega
  have e1 : (U : Int).tdiv ((Y : Int) / 4294967296) = (U : Int) / ((Y : Int) / 4294967296) := Int.tdiv_eq_ediv_of_nonneg (by omega)
  have ha0 : 0 < (Y : Int) / 4294967296 := by omega
  have ha1 : (Y : Int) / 4294967296 < 4294967296 := by omega
  have hb0 : 0 ≤ (Y : Int) % 4294967296 := by omega
  have hb1 : (Y : Int) % 4294967296 < 4294967296 := by omega
  have hL0 : 0 ≤ (L : Int) / 4294967296 := by omega
  have hL1 : (L : Int) / 4294967296 < 4294967296 := by omega
  have hl0 : 0 ≤ (L : Int) % 4294967296 := by omega
  have hl1 : (L : Int) % 4294967296 < 4294967296 := by omega
  have hU0 : 0 ≤ (U : Int) := by omega
  have hUY' : (U : Int) < (Y : Int) := by omega
  rw [e1, if_neg (by omega)]
  have htd := two_digits (U := (U : Int)) (u1 := (L : Int) / 4294967296) (u0 := (L : Int) % 4294967296) (Y := (Y : Int)) (by omega)
  have hLs : (U : Int) * 18446744073709551616 + (L : Int) / 4294967296 * 4294967296 + (L : Int) % 4294967296 = ((U * 18446744073709551616 + L : Nat) : Int) := by omega
  rw [hLs] at htd
  have hst := dig_start (u := (L : Int) / 4294967296) hYe ha0 hb0 hU0 hL0 hL1
  generalize (Y : Int) / 4294967296 = a at *
  generalize (Y : Int) % 4294967296 = b at *
  generalize (L : Int) / 4294967296 = u1 at *
  generalize (L : Int) % 4294967296 = u0 at *
  have hd0 : 0 ≤ (U : Int) / a := Int.ediv_nonneg hU0 (by omega)
  have hd1 : (U : Int) / a ≤ U := Int.ediv_le_self a hU0
  have hm0 : 0 ≤ (U : Int) % a := Int.emod_nonneg _ (by omega)
  have hm1 : (U : Int) % a < a := Int.emod_lt_of_pos _ ha0
  have hqr := quo_rem (U : Int) a
  have hj : 0 ≤ (U : Int) / a * a := Int.mul_nonneg hd0 (by omega)
  have w4 : IntKind.u64.wrap ((U : Int) / a) = (U : Int) / a := u64w hd0 (by omega)
  have w5 : IntKind.u64.wrap ((U : Int) / a * a) = (U : Int) / a * a := u64w (by omega) (by omega)
  have w6 : IntKind.u64.wrap ((U : Int) - (U : Int) / a * a) = (U : Int) % a := by rw [rest_rem]; exact u64w hm0 (by omega)
  rw [w4, w5, w6]
  obtain ⟨k', hk', hl⟩ := l0_tells (Y := (Y : Int)) (s := (s : Int)) (u0 := u0) hYe ha0 ha1 hb0 hb1 hU0 hUY' hL0 hL1 4294967296 8589934600 ((U : Int) / a) ((U : Int) % a) hqr hm0 (by omega) hd0 (by omega) hst (by omega) (by omega)
  rw [hl, j1_tells hYe ha0 ha1 hb0 hb1 hU0 hUY' hL0 hL1 hl0 hl1 k' (by omega)]
  obtain ⟨ht1, ht2⟩ := htd
  have hR0 : 0 ≤ ((U : Int) * 4294967296 + u1) % Y := Int.emod_nonneg _ (by omega)
  have hR1 : ((U : Int) * 4294967296 + u1) % Y < Y := Int.emod_lt_of_pos _ (by omega)
  have hrr := rest_rem (((U : Int) * 4294967296 + u1) % Y * 4294967296 + u0) Y
  have hq10 : 0 ≤ ((U : Int) * 4294967296 + u1) / Y := Int.ediv_nonneg (by omega) (by omega)
  have hq00 : 0 ≤ (((U : Int) * 4294967296 + u1) % Y * 4294967296 + u0) / Y := Int.ediv_nonneg (by omega) (by omega)
  have hr00 : 0 ≤ (((U : Int) * 4294967296 + u1) % Y * 4294967296 + u0) % Y := Int.emod_nonneg _ (by omega)
  have hr01 : (((U : Int) * 4294967296 + u1) % Y * 4294967296 + u0) % Y < Y := Int.emod_lt_of_pos _ (by omega)
  generalize (((U : Int) * 4294967296 + u1) % Y * 4294967296 + u0) % Y = r0 at *
  generalize (((U : Int) * 4294967296 + u1) % Y * 4294967296 + u0) / Y = q0 at *
  generalize ((U : Int) * 4294967296 + u1) % Y = r1 at *
  generalize ((U : Int) * 4294967296 + u1) / Y = q1 at *
  rw [← Int.natCast_ediv] at ht1
  rw [← Int.natCast_emod] at ht2
  rw [hquo] at ht1
  unfold ends
  rw [if_pos (by omega)]
  have x1 : IntKind.u64.wrap (IntKind.u64.wrap (q1 * 4294967296) + q0) = (((hi * 18446744073709551616 + lo) / y : Nat) : Int) := by
    have y1 : IntKind.u64.wrap (q1 * 4294967296) = q1 * 4294967296 := u64w (by omega) (by omega)
    rw [y1, u64w (by omega) (by omega)]; omega
  have x2 : IntKind.u64.wrap (IntKind.u64.wrap (IntKind.u64.wrap (r1 * 4294967296) + u0) - IntKind.u64.wrap (q0 * Y)) = (((U * 18446744073709551616 + L) % Y : Nat) : Int) := by
    simp only [IntKind.wrap_u64]
    rw [ht2]
    generalize q0 * (Y : Int) = p at *
    omega
  rw [x1, x2, shr_nat _ s (by omega), hrem]

theorem div64_pure {hi lo y : Int} (h0 : isU64 hi) (h1 : isU64 lo) (h2 : isU64 y) (hlt : hi < y) : ∃ k, bits_Div64.f k hi lo y = some ((hi * 18446744073709551616 + lo) / y, (hi * 18446744073709551616 + lo) % y) := by
  obtain ⟨h0, h0'⟩ := h0; obtain ⟨h1, h1'⟩ := h1; obtain ⟨h2, h2'⟩ := h2
  by_cases hz : hi = 0
  · refine ⟨0, ?_⟩
    subst hz
    unfold bits_Div64.f
    rw [if_neg (by omega), if_neg (by omega), if_pos rfl, Int.tdiv_eq_ediv_of_nonneg h1, Int.tmod_eq_emod_of_nonneg h1]
    have : 0 ≤ lo / y := Int.ediv_nonneg h1 h2
    have : lo / y ≤ lo := Int.ediv_le_self y h1
    rw [u64w (by omega) (by omega)]
    simp
  · obtain ⟨a, rfl⟩ := Int.eq_ofNat_of_zero_le h0
    obtain ⟨b, rfl⟩ := Int.eq_ofNat_of_zero_le h1
    obtain ⟨c, rfl⟩ := Int.eq_ofNat_of_zero_le h2
    obtain ⟨k, hk⟩ := div64_words a b c (by omega) (by omega) (by omega) (by omega)
    exact ⟨k, by rw [hk]; simp⟩
end Go.Proofs.Ytjbjkjlfikfeeaa.B
/- MulDiv, the program's: the quotient of a * b by c, rounded down, where it is an int, and 0 and false otherwise. -/
namespace Go.Proofs.Ytjbjkjlfikfeeaa.B
open Go.RowKit Go.Proofs.YtjbjkjlfikfeeaaW.PrintWords Go.Proofs.YtjbjkjlfikfeeaaW.PrintLast Go.Proofs.YtjbjkjlfikfeeaaW.PrintMore

/-- Is a number one of the type int? -/
def isI64 (x : Int) : Prop := -9223372036854775808 ≤ x ∧ x ≤ 9223372036854775807
instance (x : Int) : Decidable (isI64 x) := by unfold isI64; infer_instance

/-- The quotient of a product, rounded down, if it is an int. -/
def floorQ (n c : Int) : Int := if 0 < c then n / c else (-n) / (-c)
def fitI (q : Int) : Int × Bool := if isI64 q then (q, true) else (0, false)
def mulDiv (a b c : Int) : Int × Bool := if c = 0 then (0, false) else fitI (floorQ (a * b) c)

theorem fitI_yes {q : Int} (h0 : -9223372036854775808 ≤ q) (h1 : q ≤ 9223372036854775807) : fitI q = (q, true) := if_pos ⟨h0, h1⟩
theorem fitI_no {q : Int} (h : q < -9223372036854775808 ∨ 9223372036854775807 < q) : fitI q = (0, false) := if_neg (by unfold isI64; omega)

/-- The absolute value. -/
def mag (x : Int) : Int := if x < 0 then -x else x
theorem size_pure {a : Int} (h : isI64 a) : fixed_size.f a = some (mag a) := by
  obtain ⟨h0, h1⟩ := h
  unfold fixed_size.f mag
  by_cases ha : a < 0
  · rw [if_pos ha, if_pos ha]; simp only [IntKind.wrap_u64]; congr 1; omega
  · rw [if_neg ha, if_neg ha]; simp only [IntKind.wrap_u64]; congr 1; omega
theorem mag_u64 {a : Int} (h : isI64 a) : isU64 (mag a) := by unfold isU64 mag; obtain ⟨h0, h1⟩ := h; split <;> omega
theorem mag_le {a : Int} (h : isI64 a) : 0 ≤ mag a ∧ mag a ≤ 9223372036854775808 := by unfold mag; obtain ⟨h0, h1⟩ := h; split <;> omega

/-- The sign of the exact quotient. -/
def neg3 (a b c : Int) : Bool := ((decide (a < 0) != decide (b < 0)) != decide (c < 0))
/-- The rounded quotient out of the quotient of the absolute values. -/
theorem floorQ_mag {a b c : Int} (hc : c ≠ 0) : floorQ (a * b) c = if neg3 a b c = true then -(mag a * mag b / mag c) - (if mag a * mag b % mag c = 0 then 0 else 1) else mag a * mag b / mag c := by
  have hm : 0 < mag c := by unfold mag; split <;> omega
  have key : ∀ n : Int, (-n) / mag c = -(n / mag c) - (if n % mag c = 0 then 0 else 1) := by
    intro n
    have h1 := quo_rem n (mag c)
    have h2 : 0 ≤ n % mag c := Int.emod_nonneg _ (by omega)
    have h3 : n % mag c < mag c := Int.emod_lt_of_pos _ hm
    by_cases hz : n % mag c = 0
    · rw [if_pos hz]
      have : -n = mag c * (-(n / mag c)) := by rw [Int.mul_neg, Int.mul_comm]; omega
      rw [this, Int.mul_ediv_cancel_left _ (by omega)]; omega
    · rw [if_neg hz]
      refine ((Int.ediv_emod_unique (r := mag c - n % mag c) hm).mpr ⟨?_, by omega, by omega⟩).1
      rw [Int.mul_sub, Int.mul_neg, Int.mul_comm (mag c) (n / mag c)]; omega
  have hn : (neg3 a b c = true ∧ (if 0 < c then a * b else -(a * b)) = -(mag a * mag b)) ∨ (neg3 a b c = false ∧ (if 0 < c then a * b else -(a * b)) = mag a * mag b) := by
    unfold neg3 mag
    by_cases ha : a < 0 <;> by_cases hb : b < 0 <;> by_cases h : c < 0 <;>
      simp [ha, hb, h, Int.neg_mul, Int.mul_neg, show (0 < c) = ¬ c < 0 from by simp; omega]
  have hf : floorQ (a * b) c = (if 0 < c then a * b else -(a * b)) / mag c := by
    unfold floorQ mag
    by_cases h : 0 < c
    · rw [if_pos h, if_pos h, if_neg (by omega)]
    · rw [if_neg h, if_neg h, if_pos (by omega)]
  rcases hn with ⟨h1, h2⟩ | ⟨h1, h2⟩
  · rw [hf, h2, key, h1, if_pos rfl]
  · rw [hf, h2, h1]; simp

theorem fits_neg {q : Int} (h0 : 0 ≤ q) (h1 : q ≤ 18446744073709551615) : fixed_signed.f q true = some (fitI (-q)) := by
  unfold fixed_signed.f
  rw [if_pos rfl]
  by_cases h : q > 9223372036854775808
  · rw [if_pos h, fitI_no (by omega)]
  · rw [if_neg h, fitI_yes (by omega) (by omega), IntKind.wrap_u64]; unfold wrap64; congr 2; omega
theorem fits_pos {q : Int} (h0 : 0 ≤ q) : fixed_signed.f q false = some (fitI q) := by
  unfold fixed_signed.f
  rw [if_neg (by simp)]
  by_cases h : q ≥ 9223372036854775808
  · rw [if_pos h, fitI_no (by omega)]
  · rw [if_neg h, fitI_yes (by omega) (by omega)]; unfold wrap64; congr 2; omega
/-- The printed functions' tails. -/
def tailN (q s : Int) : Option (Int × Bool) := if s = 0 then (fixed_signed.f q true).bind fun bt => some (bt.1, bt.2) else if IntKind.u64.wrap (q + 1) = 0 then some (0, false) else (fixed_signed.f (IntKind.u64.wrap (q + 1)) true).bind fun bt => some (bt.1, bt.2)
def tailP (q : Int) : Option (Int × Bool) := (fixed_signed.f q false).bind fun bt => some (bt.1, bt.2)
theorem tailN_tells {q s : Int} (h0 : 0 ≤ q) (h1 : q ≤ 18446744073709551615) : tailN q s = some (fitI (-q - (if s = 0 then 0 else 1))) := by
  unfold tailN
  by_cases hs : s = 0
  · rw [if_pos hs, if_pos hs, fits_neg h0 h1]; simp
  · rw [if_neg hs, if_neg hs]
    by_cases hq : q = 18446744073709551615
    · subst hq; decide
    · rw [u64w (by omega) (by omega), if_neg (by omega), fits_neg (by omega) (by omega)]
      simp only [Option.bind_some]
      rw [show -(q + 1) = -q - 1 by omega]
theorem tailP_tells {q : Int} (h0 : 0 ≤ q) : tailP q = some (fitI q) := by unfold tailP; rw [fits_pos h0]; simp
theorem signs_tell (a b c : Int) (N P : Option (Int × Bool)) : (if a < 0 then (if b < 0 then (if c < 0 then N else P) else (if c < 0 then P else N)) else (if b < 0 then (if c < 0 then P else N) else (if c < 0 then N else P))) = if neg3 a b c = true then N else P := by
  unfold neg3
  by_cases ha : a < 0 <;> by_cases hb : b < 0 <;> by_cases hc : c < 0 <;> simp [ha, hb, hc]

theorem mulDiv_pure {a b c : Int} (ha : isI64 a) (hb : isI64 b) (hc : isI64 c) : ∃ k, fixed_MulDiv.f k a b c = some (mulDiv a b c) := by
  have hA := mag_le ha; have hB := mag_le hb; have hC := mag_le hc
  have hAB : 0 ≤ mag a * mag b := Int.mul_nonneg hA.1 hB.1
  have hAB1 : mag a * mag b ≤ 9223372036854775808 * 9223372036854775808 := Int.mul_le_mul hA.2 hB.2 hB.1 (by omega)
  have start : ∀ k, fixed_MulDiv.f k a b c = if mag a * mag b / 18446744073709551616 ≥ mag c then some (0, false) else (bits_Div64.f k (mag a * mag b / 18446744073709551616) (mag a * mag b % 18446744073709551616) (mag c)).bind fun bt => if neg3 a b c = true then tailN bt.1 bt.2 else tailP bt.1 := by
    intro k
    unfold fixed_MulDiv.f
    rw [size_pure ha, size_pure hb, size_pure hc]
    simp only [Option.bind_some]
    unfold bits_Mul64.f
    rw [if_pos ⟨mag_u64 ha, mag_u64 hb⟩]
    simp only [Option.bind_some, ← signs_tell]
    rfl
  by_cases hge : mag a * mag b / 18446744073709551616 ≥ mag c
  · refine ⟨0, ?_⟩
    rw [start, if_pos hge]
    unfold mulDiv
    by_cases h0 : c = 0
    · rw [if_pos h0]
    · rw [if_neg h0, floorQ_mag h0]
      have hm : 0 < mag c := by unfold mag; split <;> omega
      have hq : 18446744073709551616 ≤ mag a * mag b / mag c := dig_ge hm (by omega)
      generalize mag a * mag b / mag c = q at *
      rw [fitI_no (by split <;> (try split) <;> omega)]
  · have h0 : c ≠ 0 := by
      intro e; subst e
      have : mag 0 = 0 := by decide
      omega
    have hm : 0 < mag c := by unfold mag; split <;> omega
    obtain ⟨k, hk⟩ := div64_pure (hi := mag a * mag b / 18446744073709551616) (lo := mag a * mag b % 18446744073709551616) (y := mag c) ⟨by omega, by omega⟩ ⟨by omega, by omega⟩ (mag_u64 hc) (by omega)
    refine ⟨k, ?_⟩
    rw [start, if_neg hge, hk]
    simp only [Option.bind_some]
    have e : mag a * mag b / 18446744073709551616 * 18446744073709551616 + mag a * mag b % 18446744073709551616 = mag a * mag b := by omega
    rw [e]
    have hq0 : 0 ≤ mag a * mag b / mag c := Int.ediv_nonneg hAB (by omega)
    have hq1 : mag a * mag b / mag c < 18446744073709551616 := Int.ediv_lt_of_lt_mul hm (by omega)
    rw [tailN_tells hq0 (by omega), tailP_tells hq0]
    unfold mulDiv
    rw [if_neg h0, floorQ_mag h0]
    split <;> rfl

end Go.Proofs.Ytjbjkjlfikfeeaa.B
/- The contracts of bits.Div64, fixed.MulDiv and of the reference's MulDiv, over whole numbers, in the form in which the printed texts call them. -/
namespace Go.Proofs.Ytjbjkjlfikfeeaa.P
open Go.RowKit Go.Proofs.YtjbjkjlfikfeeaaW.PrintWords

def bits_Mul64.f (a0 : Int) (a1 : Int) : Option (Int × Int) := B.bits_Mul64.f a0 a1
theorem bits_Mul64.calls (a0 : Int) (a1 : Int) (r1 : Int) (r2 : Int) (w : World) (h : bits_Mul64.f a0 a1 = some (r1, r2)) :
    Calls Try.prog 37 #[.int .u64 a0, .int .u64 a1] w fun e w' => e = .returned (.tuple #[.int .u64 r1, .int .u64 r2]) ∧ Drawn0 w w' := B.bits_Mul64.calls a0 a1 r1 r2 w h

def bits_Div64.f (a0 : Int) (a1 : Int) (a2 : Int) : Option (Int × Int) :=
  if B.isU64 a0 ∧ B.isU64 a1 ∧ B.isU64 a2 ∧ a0 < a2 then some ((a0 * 18446744073709551616 + a1) / a2, (a0 * 18446744073709551616 + a1) % a2) else none
theorem bits_Div64.calls (a0 : Int) (a1 : Int) (a2 : Int) (r1 : Int) (r2 : Int) (w : World) (h : bits_Div64.f a0 a1 a2 = some (r1, r2)) :
    Calls Try.prog 38 #[.int .u64 a0, .int .u64 a1, .int .u64 a2] w fun e w' => e = .returned (.tuple #[.int .u64 r1, .int .u64 r2]) ∧ Drawn0 w w' := by
  unfold bits_Div64.f at h
  split at h
  · rename_i hc
    obtain ⟨h0, h1, h2, h3⟩ := hc
    obtain ⟨k, hk⟩ := B.div64_pure h0 h1 h2 h3
    rw [h] at hk
    exact B.bits_Div64.calls k a0 a1 a2 r1 r2 w hk
  · cases h

def fixed_MulDiv.f (a0 : Int) (a1 : Int) (a2 : Int) : Option (Int × Bool) :=
  if B.isI64 a0 ∧ B.isI64 a1 ∧ B.isI64 a2 then some (B.mulDiv a0 a1 a2) else none
theorem fixed_MulDiv.calls (a0 : Int) (a1 : Int) (a2 : Int) (r1 : Int) (r2 : Bool) (w : World) (h : fixed_MulDiv.f a0 a1 a2 = some (r1, r2)) :
    Calls Try.prog 57 #[.int .i64 a0, .int .i64 a1, .int .i64 a2] w fun e w' => e = .returned (.tuple #[.int .i64 r1, .bool r2]) ∧ Drawn0 w w' := by
  unfold fixed_MulDiv.f at h
  split at h
  · rename_i hc
    obtain ⟨h0, h1, h2⟩ := hc
    obtain ⟨k, hk⟩ := B.mulDiv_pure h0 h1 h2
    rw [h] at hk
    exact B.fixed_MulDiv.calls k a0 a1 a2 r1 r2 w hk
  · cases h
end Go.Proofs.Ytjbjkjlfikfeeaa.P
namespace Go.Proofs.Ytjbjkjlfikfeeaa.P
open Go.RowKit Go.Proofs.YtjbjkjlfikfeeaaW.PrintWords Go.Proofs.YtjbjkjlfikfeeaaW.PrintLast Go.Proofs.YtjbjkjlfikfeeaaW.PrintMore
attribute [local go_sem] max2_int min2_int max_two min_two max_three min_three max_four min_four Go.Proofs.Ytjbjkjlfikfeeaa.Op.isSome_setCell   -- for this text's walks alone
set_option linter.unusedVariables false
set_option linter.unusedSimpArgs false

/-! ### stamp_Of: function 15 -/
def stamp_Of.j0 : Nat → Int → Int → Option (Int)
  | 0, _, _ => none
  | k + 1, x0, x3 => (bits_Mul64.f x3 4294967296).bind fun bt234 => ((bits_Div64.f (Int.tmod bt234.1 1000000000) bt234.2 1000000000).bind fun bt236 => (if x0 ≥ 0 then (some bt236.1) else (if bt236.2 > 0 then (some (IntKind.u64.wrap (-(IntKind.u64.wrap (bt236.1 + 1))))) else (some (IntKind.u64.wrap (-bt236.1))))))
def stamp_Of.f (k : Nat) (a0 : Int) : Option (Int) := if a0 < 0 then (stamp_Of.j0 k a0 (IntKind.u64.wrap (-(IntKind.u64.wrap (a0))))) else (stamp_Of.j0 k a0 (IntKind.u64.wrap (a0)))
theorem stamp_Of.mono_l : ∀ k, (∀ y0 y1, LeO (stamp_Of.j0 k y0 y1) (stamp_Of.j0 (k + 1) y0 y1))
  | 0 => fun _ _ r h => by simp [stamp_Of.j0] at h
  | k + 1 => by
    have ih0 := stamp_Of.mono_l k
    · intro y0 y1
      unfold stamp_Of.j0
      repeat' first
      | (with_reducible exact ih0 _ _)
      | (with_reducible exact LeO.refl _)
      | (with_reducible exact LeO.none _)
      | (with_reducible refine LeO.ite ?_ ?_)
      | (with_reducible refine LeO.bind ?_ (fun _ => ?_))
      | exact ih0 _ _
      | exact LeO.none _
      | refine LeO.ite ?_ ?_
      | refine LeO.bind ?_ (fun _ => ?_)
theorem stamp_Of.mono : ∀ a0 k, LeO (stamp_Of.f k a0) (stamp_Of.f (k + 1) a0) := by
  intro a0 k
  have ih0 := stamp_Of.mono_l k
  unfold stamp_Of.f
  repeat' first
      | (with_reducible exact ih0 _ _)
      | (with_reducible exact LeO.refl _)
      | (with_reducible exact LeO.none _)
      | (with_reducible refine LeO.ite ?_ ?_)
      | (with_reducible refine LeO.bind ?_ (fun _ => ?_))
      | exact ih0 _ _
      | exact LeO.none _
      | refine LeO.ite ?_ ?_
      | refine LeO.bind ?_ (fun _ => ?_)
set_option maxHeartbeats 8000000 in
set_option maxRecDepth 100000 in
theorem stamp_Of.calls (k : Nat) (a0 : Int) (r : Int) (w : World) (h : stamp_Of.f k a0 = some r) :
    Calls Try.prog 15 #[.int .i64 a0] w fun e w' => e = .returned (.int .u64 r) ∧ Drawn0 w w' := by
  have H : (if a0 < 0 then (stamp_Of.j0 k a0 (IntKind.u64.wrap (-(IntKind.u64.wrap (a0))))) else (stamp_Of.j0 k a0 (IntKind.u64.wrap (a0)))) = some r := h
  clear h
  have HC2 := Aside0.mk H
  clear H
  go_enter Try.func15, Try.ntmps15
  go_upto_if 11 with (fail)
  go_cut [3] (fun v3 wc => ∃ (kq : Nat) (x3_1 : Int), v3 = .int .u64 x3_1 ∧ Aside0 (stamp_Of.j0 kq a0 x3_1 = some r) ∧ Aside0 (kq ≤ k) ∧ Drawn0 w wc)
  case first =>
    have H := HC2.out
    clear HC2
    by_cases c3 : a0 < 0
    · rw [if_pos c3] at H
      have c3b0 : decide (a0 < 0) = true := decide_eq_true c3
      clear c3
      (first | rw [c3b0] | (simp only [i64_w, i32_w]; rw [c3b0]) | skip)
      have H' := Aside0.mk H
      clear H
      go_wp2
      go_meet
      case rel => exact ⟨_, (IntKind.u64.wrap (-(IntKind.u64.wrap (a0)))), (by first | rfl | (simp; done) | (simp [*]; done)), H', ⟨by first | omega | exact Nat.le_refl _⟩, by repeat (first | exact Drawn0.refl _ | apply Drawn0.step)⟩
    · rw [if_neg c3] at H
      have c3b0 : decide (a0 < 0) = false := decide_eq_false c3
      clear c3
      (first | rw [c3b0] | (simp only [i64_w, i32_w]; rw [c3b0]) | skip)
      have H' := Aside0.mk H
      clear H
      go_wp2
      go_meet
      case rel => exact ⟨_, (IntKind.u64.wrap (a0)), (by first | rfl | (simp; done) | (simp [*]; done)), H', ⟨by first | omega | exact Nat.le_refl _⟩, by repeat (first | exact Drawn0.refl _ | apply Drawn0.step)⟩
  case rest =>
    clear HC2
    try clear c1
    try clear p2
    try clear c3
    try clear c3b0
    obtain ⟨kq, x3_1, rfl, HA, HJ1, ⟨mc1, rfl⟩⟩ := hcut
    cases kq with
    | zero => exact absurd HA.out (by simp [stamp_Of.j0])
    | succ kj1 =>
      have H := HA.out
      clear HA
      simp only [stamp_Of.j0] at H
      replace H := Option.bind_eq_some_iff.mp H
      obtain ⟨⟨t234, t235⟩, A40, H⟩ := H
      replace H : ((bits_Div64.f (Int.tmod t234 1000000000) t235 1000000000).bind fun bt236 => (if a0 ≥ 0 then (some bt236.1) else (if bt236.2 > 0 then (some (IntKind.u64.wrap (-(IntKind.u64.wrap (bt236.1 + 1))))) else (some (IntKind.u64.wrap (-bt236.1)))))) = some r := H
      have A4 := Aside0.mk A40
      clear A40
      replace H := Option.bind_eq_some_iff.mp H
      obtain ⟨⟨t236, t237⟩, A50, H⟩ := H
      replace H : (if a0 ≥ 0 then (some t236) else (if t237 > 0 then (some (IntKind.u64.wrap (-(IntKind.u64.wrap (t236 + 1))))) else (some (IntKind.u64.wrap (-t236))))) = some r := H
      have A5 := Aside0.mk A50
      clear A50
      by_cases c6 : a0 ≥ 0
      · rw [if_pos c6] at H
        have c6b0 : decide (0 ≤ a0) = true := decide_eq_true c6
        clear c6
        obtain rfl := Option.some.inj H
        go_wp2_with (first | ((with_reducible refine gate_callee (f := 37) rfl ?_); refine goesL_ (some 16) rfl rfl Try.func37 (by kernel_rfl) rfl #[.int .u64 x3_1, .int .u64 4294967296] rfl (by (try simp only [List.map_toArray, List.map_cons, List.map_nil]); first | done | rfl | (simp only [List.length_drop, List.length_take]; rfl)) ?_; (with_reducible refine (bits_Mul64.calls x3_1 4294967296 t234 t235 _ A4.out).mono ?_); rintro e w' ⟨rfl, ⟨nd, rfl⟩⟩; refine ⟨_, rfl, ?_⟩) | ((with_reducible refine gate_callee (f := 38) rfl ?_); refine goesL_ (some 23) rfl rfl Try.func38 (by kernel_rfl) rfl #[.int .u64 (Int.tmod t234 1000000000), .int .u64 t235, .int .u64 1000000000] rfl (by (try simp only [List.map_toArray, List.map_cons, List.map_nil]); first | done | rfl | (simp only [List.length_drop, List.length_take]; rfl)) ?_; (with_reducible refine (bits_Div64.calls (Int.tmod t234 1000000000) t235 1000000000 t236 t237 _ A5.out).mono ?_); rintro e w' ⟨rfl, ⟨nd, rfl⟩⟩; refine ⟨_, rfl, ?_⟩))
        go_ret
        exact ⟨by first | rfl | (simp; done) | (simp [*]; done), by repeat (first | exact Drawn0.refl _ | apply Drawn0.step)⟩
      · rw [if_neg c6] at H
        have c6b0 : decide (0 ≤ a0) = false := decide_eq_false c6
        clear c6
        by_cases c7 : t237 > 0
        · rw [if_pos c7] at H
          have c7b0 : decide (0 < t237) = true := decide_eq_true c7
          clear c7
          obtain rfl := Option.some.inj H
          go_wp2_with (first | ((with_reducible refine gate_callee (f := 37) rfl ?_); refine goesL_ (some 16) rfl rfl Try.func37 (by kernel_rfl) rfl #[.int .u64 x3_1, .int .u64 4294967296] rfl (by (try simp only [List.map_toArray, List.map_cons, List.map_nil]); first | done | rfl | (simp only [List.length_drop, List.length_take]; rfl)) ?_; (with_reducible refine (bits_Mul64.calls x3_1 4294967296 t234 t235 _ A4.out).mono ?_); rintro e w' ⟨rfl, ⟨nd, rfl⟩⟩; refine ⟨_, rfl, ?_⟩) | ((with_reducible refine gate_callee (f := 38) rfl ?_); refine goesL_ (some 23) rfl rfl Try.func38 (by kernel_rfl) rfl #[.int .u64 (Int.tmod t234 1000000000), .int .u64 t235, .int .u64 1000000000] rfl (by (try simp only [List.map_toArray, List.map_cons, List.map_nil]); first | done | rfl | (simp only [List.length_drop, List.length_take]; rfl)) ?_; (with_reducible refine (bits_Div64.calls (Int.tmod t234 1000000000) t235 1000000000 t236 t237 _ A5.out).mono ?_); rintro e w' ⟨rfl, ⟨nd, rfl⟩⟩; refine ⟨_, rfl, ?_⟩))
          go_ret
          exact ⟨by first | rfl | (simp; done) | (simp [*]; done), by repeat (first | exact Drawn0.refl _ | apply Drawn0.step)⟩
        · rw [if_neg c7] at H
          have c7b0 : decide (0 < t237) = false := decide_eq_false c7
          clear c7
          obtain rfl := Option.some.inj H
          go_wp2_with (first | ((with_reducible refine gate_callee (f := 37) rfl ?_); refine goesL_ (some 16) rfl rfl Try.func37 (by kernel_rfl) rfl #[.int .u64 x3_1, .int .u64 4294967296] rfl (by (try simp only [List.map_toArray, List.map_cons, List.map_nil]); first | done | rfl | (simp only [List.length_drop, List.length_take]; rfl)) ?_; (with_reducible refine (bits_Mul64.calls x3_1 4294967296 t234 t235 _ A4.out).mono ?_); rintro e w' ⟨rfl, ⟨nd, rfl⟩⟩; refine ⟨_, rfl, ?_⟩) | ((with_reducible refine gate_callee (f := 38) rfl ?_); refine goesL_ (some 23) rfl rfl Try.func38 (by kernel_rfl) rfl #[.int .u64 (Int.tmod t234 1000000000), .int .u64 t235, .int .u64 1000000000] rfl (by (try simp only [List.map_toArray, List.map_cons, List.map_nil]); first | done | rfl | (simp only [List.length_drop, List.length_take]; rfl)) ?_; (with_reducible refine (bits_Div64.calls (Int.tmod t234 1000000000) t235 1000000000 t236 t237 _ A5.out).mono ?_); rintro e w' ⟨rfl, ⟨nd, rfl⟩⟩; refine ⟨_, rfl, ?_⟩))
          go_ret
          exact ⟨by first | rfl | (simp; done) | (simp [*]; done), by repeat (first | exact Drawn0.refl _ | apply Drawn0.step)⟩

end Go.Proofs.Ytjbjkjlfikfeeaa.P
namespace Go.Proofs.Ytjbjkjlfikfeeaa.P
open Go.RowKit Go.Proofs.YtjbjkjlfikfeeaaW.PrintWords Go.Proofs.YtjbjkjlfikfeeaaW.PrintLast Go.Proofs.YtjbjkjlfikfeeaaW.PrintMore
attribute [local go_sem] max2_int min2_int max_two min_two max_three min_three max_four min_four Go.Proofs.Ytjbjkjlfikfeeaa.Op.isSome_setCell   -- for this text's walks alone
set_option linter.unusedVariables false
set_option linter.unusedSimpArgs false

/-! ### fixed_divides: function 70 -/
def fixed_divides.f (a0 : Int) (a1 : Int) : Option (Bool) := if a1 = 0 then (some false) else (if a1 = (-1) then (some (a0 != (-9223372036854775808))) else (some true))
set_option maxHeartbeats 8000000 in
set_option maxRecDepth 100000 in
theorem fixed_divides.calls (a0 : Int) (a1 : Int) (r : Bool) (w : World) (h : fixed_divides.f a0 a1 = some r) :
    Calls Try.prog 70 #[.int .i64 a0, .int .i64 a1] w fun e w' => e = .returned (.bool r) ∧ Drawn0 w w' := by
  have H : (if a1 = 0 then (some false) else (if a1 = (-1) then (some (a0 != (-9223372036854775808))) else (some true))) = some r := h
  clear h
  by_cases c3 : a1 = 0
  · rw [if_pos c3] at H
    have c3b0 : (a1 == 0) = true := beq_iff_eq.mpr c3
    have c3b1 : (a1 != 0) = false := bne_eq_false_iff_eq.mpr c3
    clear c3
    obtain rfl := Option.some.inj H
    go_enter Try.func70, Try.ntmps70
    go_wp2
    go_ret
    exact ⟨by first | rfl | (simp; done) | (simp [*]; done), by repeat (first | exact Drawn0.refl _ | apply Drawn0.step)⟩
  · rw [if_neg c3] at H
    have c3b0 : (a1 == 0) = false := beq_eq_false_iff_ne.mpr c3
    have c3b1 : (a1 != 0) = true := bne_iff_ne.mpr c3
    by_cases c4 : a1 = (-1)
    · rw [if_pos c4] at H
      have c4b0 : (a1 == (-1)) = true := beq_iff_eq.mpr c4
      have c4b1 : (a1 != (-1)) = false := bne_eq_false_iff_eq.mpr c4
      clear c4
      obtain rfl := Option.some.inj H
      go_enter Try.func70, Try.ntmps70
      go_wp2
      go_ret
      exact ⟨by first | rfl | (simp; done) | (simp [*]; done), by repeat (first | exact Drawn0.refl _ | apply Drawn0.step)⟩
    · rw [if_neg c4] at H
      have c4b0 : (a1 == (-1)) = false := beq_eq_false_iff_ne.mpr c4
      have c4b1 : (a1 != (-1)) = true := bne_iff_ne.mpr c4
      obtain rfl := Option.some.inj H
      go_enter Try.func70, Try.ntmps70
      go_wp2
      go_ret
      exact ⟨by first | rfl | (simp; done) | (simp [*]; done), by repeat (first | exact Drawn0.refl _ | apply Drawn0.step)⟩

end Go.Proofs.Ytjbjkjlfikfeeaa.P
