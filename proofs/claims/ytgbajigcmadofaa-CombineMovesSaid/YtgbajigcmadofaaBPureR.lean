/- MulDiv, the reference's: it answers with the quotient of a * b by c, rounded down, where it is an int, and with 0 and false otherwise. -/
import Derived.Test.YtgbajigcmadofaaBPure3
import Derived.Test.YtgbajigcmadofaaBx11
namespace Go.Proofs.Ytgbajigcmadofaa.B
open Go.RowKit Go.Proofs.YtgbajigcmadofaaW.PrintWords Go.Proofs.YtgbajigcmadofaaW.PrintLast Go.Proofs.YtgbajigcmadofaaW.PrintMore

theorem tdiv_wrap (x d : Int) : (IntKind.u64.wrap x).tdiv d = IntKind.u64.wrap x / d := Int.tdiv_eq_ediv_of_nonneg (by rw [IntKind.wrap_u64]; omega)
theorem tmod_wrap (x d : Int) : (IntKind.u64.wrap x).tmod d = IntKind.u64.wrap x % d := Int.tmod_eq_emod_of_nonneg (by rw [IntKind.wrap_u64]; omega)

theorem product_pure {x y : Int} (hx : isU64 x) (hy : isU64 y) : timesyncref01_product.f x y = some (x * y / 18446744073709551616, x * y % 18446744073709551616) := by
  obtain ⟨hx0, hx1⟩ := hx; obtain ⟨hy0, hy1⟩ := hy
  unfold timesyncref01_product.f
  simp only [tdiv_wrap, tmod_wrap, Int.tdiv_eq_ediv_of_nonneg hx0, Int.tmod_eq_emod_of_nonneg hx0, Int.tdiv_eq_ediv_of_nonneg hy0, Int.tmod_eq_emod_of_nonneg hy0]
  have ex : x = x / 4294967296 * 4294967296 + x % 4294967296 := by omega
  have ey : y = y / 4294967296 * 4294967296 + y % 4294967296 := by omega
  have b1 : 0 ≤ x / 4294967296 ∧ x / 4294967296 ≤ 4294967295 := by omega
  have b2 : 0 ≤ x % 4294967296 ∧ x % 4294967296 ≤ 4294967295 := by omega
  have b3 : 0 ≤ y / 4294967296 ∧ y / 4294967296 ≤ 4294967295 := by omega
  have b4 : 0 ≤ y % 4294967296 ∧ y % 4294967296 ≤ 4294967295 := by omega
  generalize x / 4294967296 = x1 at *
  generalize x % 4294967296 = x0 at *
  generalize y / 4294967296 = y1 at *
  generalize y % 4294967296 = y0 at *
  have pA := prod_bound x1 y1 b1.1 b1.2 b3.1 b3.2
  have pB := prod_bound x1 y0 b1.1 b1.2 b4.1 b4.2
  have pC := prod_bound x0 y0 b2.1 b2.2 b4.1 b4.2
  have pD := prod_bound x0 y1 b2.1 b2.2 b3.1 b3.2
  have hxy : x * y = x1 * y1 * 18446744073709551616 + (x1 * y0 + x0 * y1) * 4294967296 + x0 * y0 := by rw [ex, ey]; exact split_mul x1 x0 y1 y0
  rw [hxy]
  have w1 : IntKind.u64.wrap x1 = x1 := u64w (by omega) (by omega)
  have w2 : IntKind.u64.wrap y1 = y1 := u64w (by omega) (by omega)
  rw [w1, w2]
  simp only [IntKind.wrap_u64]
  generalize x1 * y1 = A at *
  generalize x1 * y0 = B at *
  generalize x0 * y0 = C at *
  generalize x0 * y1 = D at *
  congr 1
  refine Prod.ext ?_ ?_
  · show _ = _; omega
  · show _ = _; omega

theorem or_bit {x y : Int} (hx0 : 0 ≤ x) (hx : x < 18446744073709551616) (he : x % 2 = 0) (hy0 : 0 ≤ y) (hy : y ≤ 1) : Go.bits .or .u64 x y = x + y := by
  obtain ⟨a, rfl⟩ := Int.eq_ofNat_of_zero_le hx0
  obtain ⟨b, rfl⟩ := Int.eq_ofNat_of_zero_le hy0
  rw [u64_or_nat _ _ (by omega) (by omega), nat_join 1 a b (by omega) (by omega)]
  omega

theorem div_add_mul {n c p : Int} (hc : 0 < c) : (n + c * p) / c = n / c + p ∧ (n + c * p) % c = n % c := by
  refine ⟨Int.add_mul_ediv_left n p (by omega), Int.add_mul_emod_self_left n c p⟩

/-- The reference's division, bit by bit: from any state on. -/
theorem divide_loop (c : Int) (hc : 0 < c) (hc1 : c < 18446744073709551616) : ∀ (d k : Nat) (hi lo q1 q0 r W C : Int), d ≤ 128 → C * 2 ^ d = 340282366920938463463374607431768211456 → hi * 18446744073709551616 + lo = W * C → 0 ≤ W → W < 2 ^ d →
    0 ≤ hi → hi < 18446744073709551616 → 0 ≤ lo → lo < 18446744073709551616 → 0 ≤ q1 → 0 ≤ q0 → q0 < 18446744073709551616 → q1 * 18446744073709551616 + q0 < C → 0 < C → 0 ≤ r → r < c → d < k →
    ∃ p1 p0 s, timesyncref01_divide.l0 k hi lo c q1 q0 r (128 - (d : Int)) = some (p1, p0, s) ∧ p1 * 18446744073709551616 + p0 = (q1 * 18446744073709551616 + q0) * 2 ^ d + (r * 2 ^ d + W) / c ∧ s = (r * 2 ^ d + W) % c ∧
      0 ≤ p1 ∧ p1 < 18446744073709551616 ∧ 0 ≤ p0 ∧ p0 < 18446744073709551616 := by
  intro d
  induction d with
  | zero =>
    intro k hi lo q1 q0 r W C _ hC hV hW0 hW hh0 hh hl0 hl hq10 hq00 hq0 hQ hC0 hr0 hr hk
    obtain ⟨k, rfl⟩ : ∃ n, k = n + 1 := ⟨k - 1, by omega⟩
    have hW : W < 1 := by simpa using hW
    obtain rfl : W = 0 := by omega
    have hCe : C = 340282366920938463463374607431768211456 := by simpa using hC
    refine ⟨q1, q0, r, ?_, ?_, ?_, hq10, by omega, hq00, hq0⟩
    · simp only [timesyncref01_divide.l0]
      rw [if_neg (by omega)]
    · simp [Int.ediv_eq_zero_of_lt hr0 hr]
    · simp [Int.emod_eq_of_lt hr0 hr]
  | succ d ih =>
    intro k hi lo q1 q0 r W C hd hC hV hW0 hW hh0 hh hl0 hl hq10 hq00 hq0 hQ hC0 hr0 hr hk
    obtain ⟨k, rfl⟩ : ∃ n, k = n + 1 := ⟨k - 1, by omega⟩
    have hP : (0 : Int) < 2 ^ d := Int.pow_pos (by omega)
    have h2 : (2 : Int) ^ (d + 1) = 2 * 2 ^ d := by rw [Int.pow_succ, Int.mul_comm]
    rw [h2] at hC hW
    have ih := fun hi' lo' q1' q0' r' W' => ih k hi' lo' q1' q0' r' W' (2 * C) (by omega) (by rw [← hC, Int.mul_comm 2 C, Int.mul_assoc])
    rw [h2]
    generalize (2 : Int) ^ d = P at *
    -- the top bit, and what is left of W
    have hbW : ∃ b W', hi / 9223372036854775808 = b ∧ 0 ≤ b ∧ b ≤ 1 ∧ W = b * P + W' ∧ 0 ≤ W' ∧ W' < P ∧ W' * C = hi * 18446744073709551616 + lo - b * 170141183460469231731687303715884105728 := by
      have hCP : P * C = 170141183460469231731687303715884105728 := by
        have : 2 * (P * C) = 340282366920938463463374607431768211456 := by rw [← hC, Int.mul_left_comm C 2 P, Int.mul_comm C P]
        omega
      have e : (W - hi / 9223372036854775808 * P) * C = hi * 18446744073709551616 + lo - hi / 9223372036854775808 * 170141183460469231731687303715884105728 := by
        rw [Int.sub_mul, ← hV, Int.mul_assoc, hCP]
      refine ⟨hi / 9223372036854775808, W - hi / 9223372036854775808 * P, rfl, by omega, by omega, by omega, ?_, ?_, e⟩
      · have h3 : 0 ≤ (W - hi / 9223372036854775808 * P) * C := by rw [e]; omega
        exact Int.nonneg_of_mul_nonneg_left h3 hC0
      · have h3 : (W - hi / 9223372036854775808 * P) * C < P * C := by rw [e, hCP]; omega
        exact Int.lt_of_mul_lt_mul_right h3 (by omega)
    obtain ⟨b, W', hb, hb0, hb1, rfl, hW'0, hW'1, hW'C⟩ := hbW
    have hV' : 0 ≤ W' * C := Int.mul_nonneg hW'0 (by omega)
    -- the two words, moved up by one bit
    have e1 : Go.bits .or .u64 (IntKind.u64.wrap (hi * 2)) (lo / 9223372036854775808) = hi * 2 - b * 18446744073709551616 + lo / 9223372036854775808 := by
      have : IntKind.u64.wrap (hi * 2) = hi * 2 - b * 18446744073709551616 := by rw [IntKind.wrap_u64]; omega
      rw [this, or_bit (by omega) (by omega) (by omega) (by omega) (by omega)]
    have e2 : IntKind.u64.wrap (lo * 2) = lo * 2 - lo / 9223372036854775808 * 18446744073709551616 := by rw [IntKind.wrap_u64]; omega
    have e3 : Go.bits .or .u64 (IntKind.u64.wrap (q1 * 2)) (q0 / 9223372036854775808) = q1 * 2 + q0 / 9223372036854775808 := by
      have : IntKind.u64.wrap (q1 * 2) = q1 * 2 := u64w (by omega) (by
        have : 2 * C ≤ 340282366920938463463374607431768211456 := by
          rw [← hC]
          have : 2 * C * 1 ≤ 2 * C * P := Int.mul_le_mul_of_nonneg_left (by omega) (by omega)
          rw [Int.mul_left_comm C 2 P, ← Int.mul_assoc]; omega
        omega)
      rw [this, or_bit (by omega) (by
        have : 2 * C ≤ 340282366920938463463374607431768211456 := by
          rw [← hC]
          have : 2 * C * 1 ≤ 2 * C * P := Int.mul_le_mul_of_nonneg_left (by omega) (by omega)
          rw [Int.mul_left_comm C 2 P, ← Int.mul_assoc]; omega
        omega) (by omega) (by omega) (by omega)]
    have e4 : IntKind.u64.wrap (q0 * 2) = q0 * 2 - q0 / 9223372036854775808 * 18446744073709551616 := by rw [IntKind.wrap_u64]; omega
    have e5 : Go.bits .or .u64 (q0 * 2 - q0 / 9223372036854775808 * 18446744073709551616) 1 = q0 * 2 - q0 / 9223372036854775808 * 18446744073709551616 + 1 := or_bit (by omega) (by omega) (by omega) (by omega) (by omega)
    have e6 : Go.bits .or .u64 (IntKind.u64.wrap (r * 2)) (hi / 9223372036854775808) = r * 2 - r / 9223372036854775808 * 18446744073709551616 + b := by
      have : IntKind.u64.wrap (r * 2) = r * 2 - r / 9223372036854775808 * 18446744073709551616 := by rw [IntKind.wrap_u64]; omega
      rw [this, hb, or_bit (by omega) (by omega) (by omega) (by omega) (by omega)]
    have e7 : wrap64 (128 - ((d + 1 : Nat) : Int) + 1) = 128 - (d : Int) := by unfold wrap64; omega
    have hsame : r * (2 * P) + (b * P + W') = (2 * r + b) * P + W' := by grind
    have hyes : 2 * r + b ≥ c → ∃ p1 p0 s, timesyncref01_divide.l0 k (hi * 2 - b * 18446744073709551616 + lo / 9223372036854775808) (lo * 2 - lo / 9223372036854775808 * 18446744073709551616) c (q1 * 2 + q0 / 9223372036854775808) (q0 * 2 - q0 / 9223372036854775808 * 18446744073709551616 + 1) (2 * r + b - c) (128 - (d : Int)) = some (p1, p0, s) ∧
        p1 * 18446744073709551616 + p0 = (q1 * 18446744073709551616 + q0) * (2 * P) + (r * (2 * P) + (b * P + W')) / c ∧ s = (r * (2 * P) + (b * P + W')) % c ∧ 0 ≤ p1 ∧ p1 < 18446744073709551616 ∧ 0 ≤ p0 ∧ p0 < 18446744073709551616 := by
      intro hge
      obtain ⟨p1, p0, s, h1, h2, h3, h4⟩ := ih (hi * 2 - b * 18446744073709551616 + lo / 9223372036854775808) (lo * 2 - lo / 9223372036854775808 * 18446744073709551616) (q1 * 2 + q0 / 9223372036854775808) (q0 * 2 - q0 / 9223372036854775808 * 18446744073709551616 + 1) (2 * r + b - c) W'
        (by rw [Int.mul_left_comm W' 2 C, hW'C]; omega) hW'0 hW'1 (by omega) (by omega) (by omega) (by omega) (by omega) (by omega) (by omega) (by omega) (by omega) (by omega) (by omega) (by omega)
      refine ⟨p1, p0, s, h1, ?_, ?_, h4⟩
      · rw [h2, hsame]
        have e : (2 * r + b) * P + W' = ((2 * r + b - c) * P + W') + c * P := by grind
        rw [e, (div_add_mul hc).1]
        have e' : ((q1 * 2 + q0 / 9223372036854775808) * 18446744073709551616 + (q0 * 2 - q0 / 9223372036854775808 * 18446744073709551616 + 1)) = (q1 * 18446744073709551616 + q0) * 2 + 1 := by omega
        rw [e', Int.add_mul, Int.mul_assoc]; omega
      · rw [h3, hsame]
        have e : (2 * r + b) * P + W' = ((2 * r + b - c) * P + W') + c * P := by grind
        rw [e, (div_add_mul hc).2]
    simp only [timesyncref01_divide.l0]
    rw [if_pos (by omega), e1, e2, e3, e4, e5, e6, e7]
    by_cases ht : r / 9223372036854775808 = 1
    · have w : IntKind.u64.wrap (r * 2 - r / 9223372036854775808 * 18446744073709551616 + b - c) = 2 * r + b - c := by rw [IntKind.wrap_u64]; omega
      rw [if_pos ht, w]
      exact hyes (by omega)
    · have hr2 : r * 2 - r / 9223372036854775808 * 18446744073709551616 + b = 2 * r + b := by omega
      rw [if_neg ht, hr2]
      by_cases hge : 2 * r + b ≥ c
      · have w : IntKind.u64.wrap (2 * r + b - c) = 2 * r + b - c := u64w (by omega) (by omega)
        rw [if_pos hge, w]
        exact hyes hge
      · rw [if_neg hge]
        obtain ⟨p1, p0, s, h1, h2, h3, h4⟩ := ih (hi * 2 - b * 18446744073709551616 + lo / 9223372036854775808) (lo * 2 - lo / 9223372036854775808 * 18446744073709551616) (q1 * 2 + q0 / 9223372036854775808) (q0 * 2 - q0 / 9223372036854775808 * 18446744073709551616) (2 * r + b) W'
          (by rw [Int.mul_left_comm W' 2 C, hW'C]; omega) hW'0 hW'1 (by omega) (by omega) (by omega) (by omega) (by omega) (by omega) (by omega) (by omega) (by omega) (by omega) (by omega) (by omega)
        refine ⟨p1, p0, s, h1, ?_, ?_, h4⟩
        · rw [h2, hsame]
          have e' : ((q1 * 2 + q0 / 9223372036854775808) * 18446744073709551616 + (q0 * 2 - q0 / 9223372036854775808 * 18446744073709551616)) = (q1 * 18446744073709551616 + q0) * 2 := by omega
          rw [e', Int.mul_assoc]
        · rw [h3, hsame]

theorem divide_pure {hi lo c : Int} (h0 : isU64 hi) (h1 : isU64 lo) (h2 : isU64 c) (hc : 0 < c) : ∃ p1 p0, timesyncref01_divide.f 129 hi lo c = some (p1, p0, (hi * 18446744073709551616 + lo) % c) ∧
    p1 * 18446744073709551616 + p0 = (hi * 18446744073709551616 + lo) / c ∧ 0 ≤ p1 ∧ p1 < 18446744073709551616 ∧ 0 ≤ p0 ∧ p0 < 18446744073709551616 := by
  obtain ⟨h0, h0'⟩ := h0; obtain ⟨h1, h1'⟩ := h1; obtain ⟨h2, h2'⟩ := h2
  have e : (2 : Int) ^ 128 = 340282366920938463463374607431768211456 := by decide
  obtain ⟨p1, p0, s, h3, h4, h5, h6⟩ := divide_loop c hc (by omega) 128 129 hi lo 0 0 0 (hi * 18446744073709551616 + lo) 1 (by omega) (by rw [e]; omega) (by omega) (by omega) (by rw [e]; omega) h0 (by omega) h1 (by omega) (by omega) (by omega) (by omega) (by omega) (by omega) (by omega) hc (by omega)
  refine ⟨p1, p0, ?_, by simpa using h4, h6⟩
  unfold timesyncref01_divide.f
  have h5 : s = (hi * 18446744073709551616 + lo) % c := by simpa using h5
  rw [← h5]
  simpa using h3

/-! ### the reference's -/
theorem size_pure' {a : Int} (h : isI64 a) : timesyncref01_size.f a = some (mag a) := by
  obtain ⟨h0, h1⟩ := h
  unfold timesyncref01_size.f mag
  by_cases ha : a < 0
  · rw [if_pos ha, if_pos ha]; simp only [IntKind.wrap_u64]; unfold wrap64; congr 1; omega
  · rw [if_neg ha, if_neg ha]; simp only [IntKind.wrap_u64]; congr 1; omega

theorem signedR_pos {p1 p0 : Int} (h0 : 0 ≤ p1) (h2 : 0 ≤ p0) (h3 : p0 < 18446744073709551616) : timesyncref01_signed.f 1 false p1 p0 = some (fitI (p1 * 18446744073709551616 + p0)) := by
  unfold timesyncref01_signed.f
  by_cases h : p1 > 0
  · rw [if_pos h, fitI_no (by omega)]; rfl
  · rw [if_neg h]
    by_cases h4 : p0 > 9223372036854775808
    · rw [if_pos h4, fitI_no (by omega)]; rfl
    · rw [if_neg h4]
      by_cases h5 : p0 = 9223372036854775808
      · rw [if_pos h5, fitI_no (by omega)]; rfl
      · rw [if_neg h5, fitI_yes (by omega) (by omega)]
        simp only [timesyncref01_signed.j0]
        rw [if_neg (by simp), if_neg (by simp), i64w (by omega) (by omega)]
        congr 2; omega
theorem signedR_neg {p1 p0 : Int} (h0 : 0 ≤ p1) (h2 : 0 ≤ p0) (h3 : p0 < 18446744073709551616) : timesyncref01_signed.f 1 true p1 p0 = some (fitI (-(p1 * 18446744073709551616 + p0))) := by
  unfold timesyncref01_signed.f
  by_cases h : p1 > 0
  · rw [if_pos h, fitI_no (by omega)]; rfl
  · rw [if_neg h]
    obtain rfl : p1 = 0 := by omega
    have hin : p0 ≤ 9223372036854775808 → timesyncref01_signed.j0 1 true p0 false = some (-(0 * 18446744073709551616 + p0), true) := by
      intro h4
      simp only [timesyncref01_signed.j0]
      rw [if_neg (by simp), if_pos trivial]
      by_cases hz : p0 = 0
      · rw [if_pos hz]; subst hz; simp
      · rw [if_neg hz, IntKind.wrap_u64]; unfold wrap64; congr 2; omega
    by_cases h4 : p0 > 9223372036854775808
    · rw [if_pos h4, fitI_no (by omega)]; rfl
    · rw [if_neg h4, fitI_yes (by omega) (by omega)]
      by_cases h5 : p0 = 9223372036854775808
      · rw [if_pos h5]; exact hin (by omega)
      · rw [if_neg h5]; exact hin (by omega)
def tailRN (k : Nat) (p1 p0 s : Int) : Option (Int × Bool) := if s > 0 then (if IntKind.u64.wrap (p0 + 1) = 0 then (timesyncref01_signed.f k true (IntKind.u64.wrap (p1 + 1)) (IntKind.u64.wrap (p0 + 1))).bind fun bt => some (bt.1, bt.2) else (timesyncref01_signed.f k true p1 (IntKind.u64.wrap (p0 + 1))).bind fun bt => some (bt.1, bt.2)) else (timesyncref01_signed.f k true p1 p0).bind fun bt => some (bt.1, bt.2)
def tailRP (k : Nat) (p1 p0 : Int) : Option (Int × Bool) := (timesyncref01_signed.f k false p1 p0).bind fun bt => some (bt.1, bt.2)
theorem signedR_up (s : Bool) (p1 p0 : Int) : ∀ k, 1 ≤ k → ∀ r, timesyncref01_signed.f 1 s p1 p0 = some r → timesyncref01_signed.f k s p1 p0 = some r := by
  intro k hk
  induction k with
  | zero => omega
  | succ n ih =>
    intro r h
    by_cases hn : n = 0
    · subst hn; exact h
    · exact timesyncref01_signed.mono s p1 p0 n r (ih (by omega) r h)
theorem tailRN_tells {k : Nat} (hk : 1 ≤ k) {p1 p0 s : Int} (h0 : 0 ≤ p1) (h1 : p1 < 18446744073709551615) (h2 : 0 ≤ p0) (h3 : p0 < 18446744073709551616) (hs : 0 ≤ s) : tailRN k p1 p0 s = some (fitI (-(p1 * 18446744073709551616 + p0) - (if s = 0 then 0 else 1))) := by
  unfold tailRN
  by_cases hz : s > 0
  · rw [if_pos hz]
    by_cases hp : p0 = 18446744073709551615
    · have e : IntKind.u64.wrap (p0 + 1) = 0 := by rw [IntKind.wrap_u64]; omega
      rw [e, if_pos rfl, u64w (by omega) (by omega), signedR_up _ _ _ k hk _ (signedR_neg (by omega) (by omega) (by omega))]
      simp only [Option.bind_some]
      rw [if_neg (show ¬ s = 0 by omega), show -((p1 + 1) * 18446744073709551616 + 0) = -(p1 * 18446744073709551616 + p0) - 1 by omega]
    · have e : IntKind.u64.wrap (p0 + 1) = p0 + 1 := u64w (by omega) (by omega)
      rw [e, if_neg (by omega), signedR_up _ _ _ k hk _ (signedR_neg (by omega) (by omega) (by omega))]
      simp only [Option.bind_some]
      rw [if_neg (show ¬ s = 0 by omega), show -(p1 * 18446744073709551616 + (p0 + 1)) = -(p1 * 18446744073709551616 + p0) - 1 by omega]
  · rw [if_neg hz, if_pos (show s = 0 by omega), signedR_up _ _ _ k hk _ (signedR_neg (by omega) (by omega) (by omega))]
    simp
theorem tailRP_tells {k : Nat} (hk : 1 ≤ k) {p1 p0 : Int} (h0 : 0 ≤ p1) (h2 : 0 ≤ p0) (h3 : p0 < 18446744073709551616) : tailRP k p1 p0 = some (fitI (p1 * 18446744073709551616 + p0)) := by
  unfold tailRP
  rw [signedR_up _ _ _ k hk _ (signedR_pos h0 h2 h3)]; simp

theorem mulDivR_pure {a b c : Int} (ha : isI64 a) (hb : isI64 b) (hc : isI64 c) : timesyncref01_MulDiv.f 129 a b c = some (mulDiv a b c) := by
  have hA := mag_le ha; have hB := mag_le hb; have hC := mag_le hc
  have hAB : 0 ≤ mag a * mag b := Int.mul_nonneg hA.1 hB.1
  have hAB1 : mag a * mag b ≤ 9223372036854775808 * 9223372036854775808 := Int.mul_le_mul hA.2 hB.2 hB.1 (by omega)
  have start : timesyncref01_MulDiv.f 129 a b c = if c = 0 then some (0, false) else (timesyncref01_divide.f 129 (mag a * mag b / 18446744073709551616) (mag a * mag b % 18446744073709551616) (mag c)).bind fun bt => if neg3 a b c = true then tailRN 129 bt.1 bt.2.1 bt.2.2 else tailRP 129 bt.1 bt.2.1 := by
    unfold timesyncref01_MulDiv.f
    rw [size_pure' ha, size_pure' hb, size_pure' hc]
    simp only [Option.bind_some]
    rw [product_pure (mag_u64 ha) (mag_u64 hb)]
    simp only [Option.bind_some, ← signs_tell]
    rfl
  rw [start]
  unfold mulDiv
  by_cases h0 : c = 0
  · rw [if_pos h0, if_pos h0]
  · rw [if_neg h0, if_neg h0, floorQ_mag h0]
    have hm : 0 < mag c := by unfold mag; split <;> omega
    obtain ⟨p1, p0, h1, h2, h3, h4, h5, h6⟩ := divide_pure (hi := mag a * mag b / 18446744073709551616) (lo := mag a * mag b % 18446744073709551616) (c := mag c) ⟨by omega, by omega⟩ ⟨by omega, by omega⟩ (mag_u64 hc) hm
    have e : mag a * mag b / 18446744073709551616 * 18446744073709551616 + mag a * mag b % 18446744073709551616 = mag a * mag b := by omega
    rw [e] at h1 h2
    have hs : 0 ≤ mag a * mag b % mag c := Int.emod_nonneg _ (by omega)
    have hle : mag a * mag b / mag c ≤ mag a * mag b := Int.ediv_le_self _ hAB
    rw [h1]
    simp only [Option.bind_some]
    rw [tailRN_tells (by omega) h3 (by omega) h5 h6 hs, tailRP_tells (by omega) h3 h5 h6, h2]
    split <;> rfl
end Go.Proofs.Ytgbajigcmadofaa.B
