/- The number that bytes are, and the bytes of a number. -/
import Derived.Test.YtpmkggcmnelhhaaXDec
import Derived.Test.YtpmkggcmnelhhaaPureN19c
namespace Go.Proofs.Ytpmkggcmnelhhaa.Rd
open Go.RowKit Go.Proofs.YtpmkggcmnelhhaaW.PrintWords Go.Proofs.YtpmkggcmnelhhaaW.PrintLast Go.Proofs.YtpmkggcmnelhhaaW.PrintMore
open Go.Proofs.Ytpmkggcmnelhhaa.P (digit be be_length hdr)

theorem or_byte (a b : Nat) (ha : a < 2 ^ 56) (hb : b < 256) : Go.bits .or .u64 (IntKind.u64.wrap ((a : Int) * 256)) (b : Int) = (a * 256 + b : Nat) := by
  have e : ∀ x y : Int, Go.bits .or .u64 x y = IntKind.u64.wrap ((BitVec.ofInt 64 x ||| BitVec.ofInt 64 y).toNat : Int) := fun _ _ => rfl
  rw [e, IntKind.wrap_u64, IntKind.wrap_u64]
  have e1 : (a : Int) * 256 % 18446744073709551616 = ((a * 256 : Nat) : Int) := by omega
  rw [e1, BitVec.toNat_or, BitVec.toNat_ofInt, BitVec.toNat_ofInt]
  have e2 : (((a * 256 : Nat) : Int) % ((2 ^ 64 : Nat) : Int)).toNat = 2 ^ 8 * a := by omega
  have e3 : ((b : Int) % ((2 ^ 64 : Nat) : Int)).toNat = b := by omega
  rw [e2, e3, ← Nat.two_pow_add_eq_or_of_lt (by omega)]
  omega
/-- The value of the first k bytes. -/
def val (l : List Int) : Nat → Int
  | 0 => 0
  | k + 1 => val l k * 256 + rd l k
theorem val_range {l : List Int} (h : bytesOk l) (k : Nat) : 0 ≤ val l k ∧ val l k < 2 ^ (8 * k) := by
  induction k with
  | zero => simp [val]
  | succ k ih =>
    obtain ⟨r0, r1⟩ := rd_byte h k
    rw [val, show 8 * (k + 1) = 8 * k + 8 by omega, Int.pow_add]
    generalize (2 : Int) ^ (8 * k) = p at *
    have : (2 : Int) ^ 8 = 256 := rfl
    rw [this]
    omega
theorem acc_val {l : List Int} (h : bytesOk l) (k : Nat) (hk : k ≤ 8) : acc l k = val l k := by
  induction k with
  | zero => rfl
  | succ k ih =>
    obtain ⟨r0, r1⟩ := rd_byte h k
    obtain ⟨v0, v1⟩ := val_range h k
    have hp : (2 : Int) ^ (8 * k) ≤ 2 ^ 56 := by
      have : (2 : Nat) ^ (8 * k) ≤ 2 ^ 56 := Nat.pow_le_pow_right (by omega) (by omega)
      have h2 : ((2 ^ (8 * k) : Nat) : Int) ≤ ((2 ^ 56 : Nat) : Int) := by exact_mod_cast this
      simpa using h2
    rw [acc, ih (by omega), val]
    obtain ⟨a, ha⟩ := Int.eq_ofNat_of_zero_le v0
    obtain ⟨c, hc⟩ := Int.eq_ofNat_of_zero_le r0
    rw [ha] at v1 ⊢
    rw [hc] at r1 ⊢
    rw [or_byte a c (by have : (a : Int) < 2 ^ 56 := Int.lt_of_lt_of_le v1 hp; omega) (by omega)]
    omega
theorem rd_be (n : Int) (s i : Nat) (hi : i < s) : rd (be n s) (i : Int) = digit n s i := by
  unfold rd be
  rw [Int.toNat_natCast, List.getD_eq_getElem?_getD, List.getElem?_map, List.getElem?_range hi]
  rfl
theorem val_be_at (n : Int) (s : Nat) (h0 : 0 ≤ n) (h1 : n < 2 ^ (8 * s)) : ∀ k, k ≤ s → val (be n s) k = n / 2 ^ (8 * (s - k)) := by
  intro k
  induction k with
  | zero =>
    intro _
    rw [val, Nat.sub_zero, Int.ediv_eq_zero_of_lt h0 h1]
  | succ k ih =>
    intro hk
    rw [val, ih (by omega), rd_be n s k (by omega)]
    unfold digit
    have e1 : 8 * (s - k) = 8 * (s - 1 - k) + 8 := by omega
    have e2 : s - (k + 1) = s - 1 - k := by omega
    rw [e1, e2, Int.pow_add, ← Int.ediv_ediv_of_nonneg (Int.pow_nonneg (by omega)), show (2 : Int) ^ 8 = 256 from rfl]
    omega
theorem val_be (n : Int) (s : Nat) (h0 : 0 ≤ n) (h1 : n < 2 ^ (8 * s)) : val (be n s) s = n := by
  rw [val_be_at n s h0 h1 s (Nat.le_refl _), Nat.sub_self]
  simp
theorem be_bytes (n : Int) (s : Nat) : bytesOk (be n s) := by
  intro x hx
  unfold be at hx
  obtain ⟨i, _, rfl⟩ := List.mem_map.1 hx
  unfold digit
  omega
theorem acc_be (n : Int) (s : Nat) (h0 : 0 ≤ n) (h1 : n < 2 ^ (8 * s)) (hs : s ≤ 8) : acc (be n s) s = n := by
  rw [acc_val (be_bytes n s) s hs, val_be n s h0 h1]
theorem mid_of {α : Type} (pre mid post : List α) (k s : Nat) (hk : pre.length = k) (hs : mid.length = s) : ((pre ++ (mid ++ post)).drop k).take s = mid := by
  subst hk hs
  rw [List.drop_left, List.take_left]
end Go.Proofs.Ytpmkggcmnelhhaa.Rd
