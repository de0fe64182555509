/- The number that bytes are, and the bytes of a number. -/
import Derived.Test.YthneihebdlppeaaXRdA
namespace Go.Proofs.Ythneihebdlppeaa.Rd
open Go.RowKit Go.Proofs.YthneihebdlppeaaW.PrintWords Go.Proofs.YthneihebdlppeaaW.PrintLast Go.Proofs.YthneihebdlppeaaW.PrintMore
open Go.Proofs.Ythneihebdlppeaa.P (digit wire_Append.f)
def be (n : Int) (s : Nat) : List Int := (List.range s).map (digit n s)
theorem be_length (n : Int) (s : Nat) : (be n s).length = s := by simp [be]

theorem or_byte (a b : Nat) (ha : a < 2 ^ 56) (hb : b < 256) : Go.bits .or .u64 (IntKind.u64.wrap ((a : Int) * 256)) (b : Int) = (a * 256 + b : Nat) := by
  have e : ∀ x y : Int, Go.bits .or .u64 x y = IntKind.u64.wrap ((BitVec.ofInt 64 x ||| BitVec.ofInt 64 y).toNat : Int) := fun _ _ => rfl
  rw [e, IntKind.wrap_u64, IntKind.wrap_u64]
  have e1 : (a : Int) * 256 % 18446744073709551616 = ((a * 256 : Nat) : Int) := by omega
  rw [e1, BitVec.toNat_or, BitVec.toNat_ofInt, BitVec.toNat_ofInt]
  have e2 : (((a * 256 : Nat) : Int) % ((2 ^ 64 : Nat) : Int)).toNat = 2 ^ 8 * a := by omega
  have e3 : ((b : Int) % ((2 ^ 64 : Nat) : Int)).toNat = b := by omega
  rw [e2, e3, ← Nat.two_pow_add_eq_or_of_lt (by omega)]
  omega
/-- The value of the first k bytes. -/
def val (l : List Int) : Nat → Int
  | 0 => 0
  | k + 1 => val l k * 256 + rd l k
theorem val_range {l : List Int} (h : bytesOk l) (k : Nat) : 0 ≤ val l k ∧ val l k < 2 ^ (8 * k) := by
  induction k with
  | zero => simp [val]
  | succ k ih =>
    obtain ⟨r0, r1⟩ := rd_byte h k
    rw [val, show 8 * (k + 1) = 8 * k + 8 by omega, Int.pow_add]
    generalize (2 : Int) ^ (8 * k) = p at *
    have : (2 : Int) ^ 8 = 256 := rfl
    rw [this]
    omega
theorem acc_val {l : List Int} (h : bytesOk l) (k : Nat) (hk : k ≤ 8) : acc l k = val l k := by
  induction k with
  | zero => rfl
  | succ k ih =>
    obtain ⟨r0, r1⟩ := rd_byte h k
    obtain ⟨v0, v1⟩ := val_range h k
    have hp : (2 : Int) ^ (8 * k) ≤ 2 ^ 56 := by
      have : (2 : Nat) ^ (8 * k) ≤ 2 ^ 56 := Nat.pow_le_pow_right (by omega) (by omega)
      have h2 : ((2 ^ (8 * k) : Nat) : Int) ≤ ((2 ^ 56 : Nat) : Int) := by exact_mod_cast this
      simpa using h2
    rw [acc, ih (by omega), val]
    obtain ⟨a, ha⟩ := Int.eq_ofNat_of_zero_le v0
    obtain ⟨c, hc⟩ := Int.eq_ofNat_of_zero_le r0
    rw [ha] at v1 ⊢
    rw [hc] at r1 ⊢
    rw [or_byte a c (by have : (a : Int) < 2 ^ 56 := Int.lt_of_lt_of_le v1 hp; omega) (by omega)]
    omega
theorem rd_be (n : Int) (s i : Nat) (hi : i < s) : rd (be n s) (i : Int) = digit n s i := by
  unfold rd be
  rw [Int.toNat_natCast, List.getD_eq_getElem?_getD, List.getElem?_map, List.getElem?_range hi]
  rfl
theorem val_be_at (n : Int) (s : Nat) (h0 : 0 ≤ n) (h1 : n < 2 ^ (8 * s)) : ∀ k, k ≤ s → val (be n s) k = n / 2 ^ (8 * (s - k)) := by
  intro k
  induction k with
  | zero =>
    intro _
    rw [val, Nat.sub_zero, Int.ediv_eq_zero_of_lt h0 h1]
  | succ k ih =>
    intro hk
    rw [val, ih (by omega), rd_be n s k (by omega)]
    unfold digit
    have e1 : 8 * (s - k) = 8 * (s - 1 - k) + 8 := by omega
    have e2 : s - (k + 1) = s - 1 - k := by omega
    rw [e1, e2, Int.pow_add, ← Int.ediv_ediv_of_nonneg (Int.pow_nonneg (by omega)), show (2 : Int) ^ 8 = 256 from rfl]
    omega
theorem val_be (n : Int) (s : Nat) (h0 : 0 ≤ n) (h1 : n < 2 ^ (8 * s)) : val (be n s) s = n := by
  rw [val_be_at n s h0 h1 s (Nat.le_refl _), Nat.sub_self]
  simp
theorem be_bytes (n : Int) (s : Nat) : bytesOk (be n s) := by
  intro x hx
  unfold be at hx
  obtain ⟨i, _, rfl⟩ := List.mem_map.1 hx
  unfold digit
  omega
theorem acc_be (n : Int) (s : Nat) (h0 : 0 ≤ n) (h1 : n < 2 ^ (8 * s)) (hs : s ≤ 8) : acc (be n s) s = n := by
  rw [acc_val (be_bytes n s) s hs, val_be n s h0 h1]
theorem mid_of {α : Type} (pre mid post : List α) (k s : Nat) (hk : pre.length = k) (hs : mid.length = s) : ((pre ++ (mid ++ post)).drop k).take s = mid := by
  subst hk hs
  rw [List.drop_left, List.take_left]
theorem val_div {l : List Int} (h : bytesOk l) (k : Nat) : ∀ d, val l (k + d) / 2 ^ (8 * d) = val l k := by
  intro d
  induction d with
  | zero => simp
  | succ d ih =>
    obtain ⟨r0, r1⟩ := rd_byte h (k + d)
    rw [show k + (d + 1) = (k + d) + 1 by omega, val, show 8 * (d + 1) = 8 + 8 * d by omega, Int.pow_add, ← Int.ediv_ediv_of_nonneg (by decide), show (2 : Int) ^ 8 = 256 from rfl]
    have e : (val l (k + d) * 256 + rd l ((k + d : Nat) : Int)) / 256 = val l (k + d) := by omega
    rw [e, ih]
theorem be_val {l : List Int} (h : bytesOk l) (s : Nat) (hs : l.length = s) : be (val l s) s = l := by
  apply List.ext_getElem
  · rw [be_length, hs]
  · intro i h1 h2
    rw [be_length] at h1
    have e : val l s / 2 ^ (8 * (s - 1 - i)) = val l (i + 1) := by
      have := val_div h (i + 1) (s - 1 - i)
      rw [show i + 1 + (s - 1 - i) = s by omega] at this
      exact this
    have e2 : (be (val l s) s)[i] = digit (val l s) s i := by
      simp [be]
    rw [e2]
    unfold digit
    rw [e, val]
    obtain ⟨r0, r1⟩ := rd_byte h i
    have e3 : rd l (i : Int) = l[i] := by
      unfold rd
      rw [Int.toNat_natCast, List.getD_eq_getElem?_getD, List.getElem?_eq_getElem h2]
      rfl
    rw [e3] at r0 r1 ⊢
    omega
/-- Append of a number that fits. -/
theorem app_fits (l : List Int) (n : Int) (s : Nat) (h1 : 1 ≤ s) (h8 : s ≤ 8) (h0 : 0 ≤ n) (hn : n < 2 ^ (8 * s)) (hl : l.length ≤ 140737488355000) : wire_Append.f l n s = some (l ++ be n s, 0) := by
  unfold wire_Append.f
  rw [if_pos h0, if_pos ⟨by omega, by omega⟩, Int.toNat_natCast, Int.ediv_eq_zero_of_lt h0 hn, if_neg (by omega), if_pos hl]
  rfl
/-- The whole number of a reader's bytes. -/
theorem uintS_be (n : Int) (s : Nat) (h1 : 1 ≤ s) (h8 : s ≤ 8) (h0 : 0 ≤ n) (hn : n < 2 ^ (8 * s)) (r : List Int) : uintS (be n s ++ r) 0 s = (n, r, 0) := by
  have hr : rightS s = true := decide_eq_true ⟨by omega, by omega⟩
  have ht : takeS (be n s ++ r) 0 s true = (some (be n s), r, 0) := by
    unfold takeS
    rw [if_neg (by simp), if_neg (by simp), if_neg (by rw [List.length_append, be_length]; omega), Int.toNat_natCast]
    rw [List.take_append_of_le_length (by rw [be_length]; omega), List.take_of_length_le (by rw [be_length]; omega), List.drop_left' (be_length _ _)]
  unfold uintS
  rw [hr, ht]
  simp only
  rw [Int.toNat_natCast, acc_be n s h0 hn h8]
theorem intS_be (n : Int) (s : Nat) (h1 : 1 ≤ s) (h8 : s ≤ 8) (h0 : 0 ≤ n) (hn : n < 2 ^ (8 * s)) (r : List Int) : intS (be n s ++ r) 0 s = (upDown n s, r, 0) := by
  have hr : rightS s = true := decide_eq_true ⟨by omega, by omega⟩
  have ht : takeS (be n s ++ r) 0 s true = (some (be n s), r, 0) := by
    unfold takeS
    rw [if_neg (by simp), if_neg (by simp), if_neg (by rw [List.length_append, be_length]; omega), Int.toNat_natCast]
    rw [List.take_append_of_le_length (by rw [be_length]; omega), List.take_of_length_le (by rw [be_length]; omega), List.drop_left' (be_length _ _)]
  unfold intS
  rw [hr, ht]
  simp only
  rw [Int.toNat_natCast, acc_be n s h0 hn h8]
end Go.Proofs.Ythneihebdlppeaa.Rd
