/- Sums and differences that are an int, or not: by the signs, as package fixed tells it. -/
import Derived.Laws.BitsLemmas
import Derived.OpenShut
import Derived.RowKit
namespace Go.Proofs.Ytfncdkklhmjgoaa.Pure
open Go.RowKit

theorem i64_toInt (z : BitVec 64) : IntKind.i64.wrap (z.toNat : Int) = z.toInt := by
  rw [IntKind.wrap_i64, BitVec.toInt_eq_toNat_cond]
  have := z.isLt
  split <;> omega
theorem i64_neg_msb (z : BitVec 64) : (z.toInt < 0) ↔ z.msb = true := by
  rw [BitVec.msb_eq_toInt]; simp
theorem ofInt_toInt64 {x : Int} (h0 : -9223372036854775808 ≤ x) (h1 : x ≤ 9223372036854775807) : (BitVec.ofInt 64 x).toInt = x := by
  rw [BitVec.toInt_ofInt, Int.bmod_def]; split <;> omega
theorem and_neg (x y : Int) : Go.bits .and .i64 x y < 0 ↔ (BitVec.ofInt 64 x).msb = true ∧ (BitVec.ofInt 64 y).msb = true := by
  have e : Go.bits .and .i64 x y = (BitVec.ofInt 64 x &&& BitVec.ofInt 64 y).toInt := i64_toInt _
  rw [e, i64_neg_msb, BitVec.msb_and]; simp
theorem xor_bv (x y : Int) : BitVec.ofInt 64 (Go.bits .xor .i64 x y) = BitVec.ofInt 64 x ^^^ BitVec.ofInt 64 y := by
  have e : Go.bits .xor .i64 x y = (BitVec.ofInt 64 x ^^^ BitVec.ofInt 64 y).toInt := i64_toInt _
  rw [e, BitVec.ofInt_toInt]
theorem msb_of {x : Int} (h0 : -9223372036854775808 ≤ x) (h1 : x ≤ 9223372036854775807) : (BitVec.ofInt 64 x).msb = decide (x < 0) := by
  rw [Bool.eq_iff_iff, decide_eq_true_iff, ← i64_neg_msb, ofInt_toInt64 h0 h1]
/-- The test of package fixed: two signs that part, twice. -/
theorem signs_part {x y u v : Int} (hx0 : -9223372036854775808 ≤ x) (hx : x ≤ 9223372036854775807) (hy0 : -9223372036854775808 ≤ y) (hy : y ≤ 9223372036854775807) (hu0 : -9223372036854775808 ≤ u) (hu : u ≤ 9223372036854775807) (hv0 : -9223372036854775808 ≤ v) (hv : v ≤ 9223372036854775807) :
    Go.bits .and .i64 (Go.bits .xor .i64 x y) (Go.bits .xor .i64 u v) < 0 ↔ ((x < 0 ∧ ¬ y < 0) ∨ (¬ x < 0 ∧ y < 0)) ∧ ((u < 0 ∧ ¬ v < 0) ∨ (¬ u < 0 ∧ v < 0)) := by
  rw [and_neg, xor_bv, xor_bv, BitVec.msb_xor, BitVec.msb_xor, msb_of hx0 hx, msb_of hy0 hy, msb_of hu0 hu, msb_of hv0 hv]
  by_cases h1 : x < 0 <;> by_cases h2 : y < 0 <;> by_cases h3 : u < 0 <;> by_cases h4 : v < 0 <;> simp [h1, h2, h3, h4]
theorem wrap64_range (x : Int) : -9223372036854775808 ≤ wrap64 x ∧ wrap64 x ≤ 9223372036854775807 := by unfold wrap64; omega
theorem sub_signs {a b : Int} (ha0 : -9223372036854775808 ≤ a) (ha : a ≤ 9223372036854775807) (hb0 : -9223372036854775808 ≤ b) (hb : b ≤ 9223372036854775807) :
    Go.bits .and .i64 (Go.bits .xor .i64 a b) (Go.bits .xor .i64 a (wrap64 (a - b))) < 0 ↔ ¬ (-9223372036854775808 ≤ a - b ∧ a - b ≤ 9223372036854775807) := by
  rw [signs_part ha0 ha hb0 hb ha0 ha (wrap64_range _).1 (wrap64_range _).2]
  unfold wrap64
  omega
theorem add_signs {a b : Int} (ha0 : -9223372036854775808 ≤ a) (ha : a ≤ 9223372036854775807) (hb0 : -9223372036854775808 ≤ b) (hb : b ≤ 9223372036854775807) :
    Go.bits .and .i64 (Go.bits .xor .i64 a (wrap64 (a + b))) (Go.bits .xor .i64 b (wrap64 (a + b))) < 0 ↔ ¬ (-9223372036854775808 ≤ a + b ∧ a + b ≤ 9223372036854775807) := by
  rw [signs_part ha0 ha (wrap64_range _).1 (wrap64_range _).2 hb0 hb (wrap64_range _).1 (wrap64_range _).2]
  unfold wrap64
  omega
end Go.Proofs.Ytfncdkklhmjgoaa.Pure
