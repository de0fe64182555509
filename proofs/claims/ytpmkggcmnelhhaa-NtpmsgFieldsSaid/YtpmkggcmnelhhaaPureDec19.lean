/- The number that bytes are, and the bytes of a number. -/
import Derived.Test.YtpmkggcmnelhhaaXDec
import Derived.Test.YtpmkggcmnelhhaaPureN19
namespace Go.Proofs.Ytpmkggcmnelhhaa.Rd
open Go.RowKit Go.Proofs.YtpmkggcmnelhhaaW.PrintWords Go.Proofs.YtpmkggcmnelhhaaW.PrintLast Go.Proofs.YtpmkggcmnelhhaaW.PrintMore
open Go.Proofs.Ytpmkggcmnelhhaa.P (digit be be_length hdr)

theorem or_byte (a b : Nat) (ha : a < 2 ^ 56) (hb : b < 256) : Go.bits .or .u64 (IntKind.u64.wrap ((a : Int) * 256)) (b : Int) = (a * 256 + b : Nat) := by
  have e : ∀ x y : Int, Go.bits .or .u64 x y = IntKind.u64.wrap ((BitVec.ofInt 64 x ||| BitVec.ofInt 64 y).toNat : Int) := fun _ _ => rfl
  rw [e, IntKind.wrap_u64, IntKind.wrap_u64]
  have e1 : (a : Int) * 256 % 18446744073709551616 = ((a * 256 : Nat) : Int) := by omega
  rw [e1, BitVec.toNat_or, BitVec.toNat_ofInt, BitVec.toNat_ofInt]
  have e2 : (((a * 256 : Nat) : Int) % ((2 ^ 64 : Nat) : Int)).toNat = 2 ^ 8 * a := by omega
  have e3 : ((b : Int) % ((2 ^ 64 : Nat) : Int)).toNat = b := by omega
  rw [e2, e3, ← Nat.two_pow_add_eq_or_of_lt (by omega)]
  omega
/-- The value of the first k bytes. -/
def val (l : List Int) : Nat → Int
  | 0 => 0
  | k + 1 => val l k * 256 + rd l k
theorem val_range {l : List Int} (h : bytesOk l) (k : Nat) : 0 ≤ val l k ∧ val l k < 2 ^ (8 * k) := by
  induction k with
  | zero => simp [val]
  | succ k ih =>
    obtain ⟨r0, r1⟩ := rd_byte h k
    rw [val, show 8 * (k + 1) = 8 * k + 8 by omega, Int.pow_add]
    generalize (2 : Int) ^ (8 * k) = p at *
    have : (2 : Int) ^ 8 = 256 := rfl
    rw [this]
    omega
theorem acc_val {l : List Int} (h : bytesOk l) (k : Nat) (hk : k ≤ 8) : acc l k = val l k := by
  induction k with
  | zero => rfl
  | succ k ih =>
    obtain ⟨r0, r1⟩ := rd_byte h k
    obtain ⟨v0, v1⟩ := val_range h k
    have hp : (2 : Int) ^ (8 * k) ≤ 2 ^ 56 := by
      have : (2 : Nat) ^ (8 * k) ≤ 2 ^ 56 := Nat.pow_le_pow_right (by omega) (by omega)
      have h2 : ((2 ^ (8 * k) : Nat) : Int) ≤ ((2 ^ 56 : Nat) : Int) := by exact_mod_cast this
      simpa using h2
    rw [acc, ih (by omega), val]
    obtain ⟨a, ha⟩ := Int.eq_ofNat_of_zero_le v0
    obtain ⟨c, hc⟩ := Int.eq_ofNat_of_zero_le r0
    rw [ha] at v1 ⊢
    rw [hc] at r1 ⊢
    rw [or_byte a c (by have : (a : Int) < 2 ^ 56 := Int.lt_of_lt_of_le v1 hp; omega) (by omega)]
    omega
theorem rd_be (n : Int) (s i : Nat) (hi : i < s) : rd (be n s) (i : Int) = digit n s i := by
  unfold rd be
  rw [Int.toNat_natCast, List.getD_eq_getElem?_getD, List.getElem?_map, List.getElem?_range hi]
  rfl
theorem val_be_at (n : Int) (s : Nat) (h0 : 0 ≤ n) (h1 : n < 2 ^ (8 * s)) : ∀ k, k ≤ s → val (be n s) k = n / 2 ^ (8 * (s - k)) := by
  intro k
  induction k with
  | zero =>
    intro _
    rw [val, Nat.sub_zero, Int.ediv_eq_zero_of_lt h0 h1]
  | succ k ih =>
    intro hk
    rw [val, ih (by omega), rd_be n s k (by omega)]
    unfold digit
    have e1 : 8 * (s - k) = 8 * (s - 1 - k) + 8 := by omega
    have e2 : s - (k + 1) = s - 1 - k := by omega
    rw [e1, e2, Int.pow_add, ← Int.ediv_ediv_of_nonneg (Int.pow_nonneg (by omega)), show (2 : Int) ^ 8 = 256 from rfl]
    omega
theorem val_be (n : Int) (s : Nat) (h0 : 0 ≤ n) (h1 : n < 2 ^ (8 * s)) : val (be n s) s = n := by
  rw [val_be_at n s h0 h1 s (Nat.le_refl _), Nat.sub_self]
  simp
theorem be_bytes (n : Int) (s : Nat) : bytesOk (be n s) := by
  intro x hx
  unfold be at hx
  obtain ⟨i, _, rfl⟩ := List.mem_map.1 hx
  unfold digit
  omega
theorem acc_be (n : Int) (s : Nat) (h0 : 0 ≤ n) (h1 : n < 2 ^ (8 * s)) (hs : s ≤ 8) : acc (be n s) s = n := by
  rw [acc_val (be_bytes n s) s hs, val_be n s h0 h1]
theorem mid_of {α : Type} (pre mid post : List α) (k s : Nat) (hk : pre.length = k) (hs : mid.length = s) : ((pre ++ (mid ++ post)).drop k).take s = mid := by
  subst hk hs
  rw [List.drop_left, List.take_left]
end Go.Proofs.Ytpmkggcmnelhhaa.Rd
namespace Go.Proofs.Ytpmkggcmnelhhaa.P
open Go.RowKit Go.Proofs.YtpmkggcmnelhhaaW.PrintWords Go.Proofs.YtpmkggcmnelhhaaW.PrintLast Go.Proofs.YtpmkggcmnelhhaaW.PrintMore Go.Proofs.Ytpmkggcmnelhhaa.Rd

theorem acc_one (x : Int) (h0 : 0 ≤ x) (h1 : x ≤ 255) : acc [x] 1 = x := by
  have hb : bytesOk [x] := by intro y hy; rw [List.mem_singleton] at hy; subst hy; exact ⟨h0, h1⟩
  rw [acc_val hb 1 (by omega)]
  simp [val, rd]
theorem up_one (P : Int) (h0 : -128 ≤ P) (h1 : P ≤ 127) : upDown (P % 256) 1 = P := by
  unfold upDown
  rw [IntKind.wrap_u64, show (2 : Int) ^ (64 - 8 * 1) = 72057594037927936 from rfl]
  unfold wrap64
  omega
theorem and_seven (x : Int) (h0 : 0 ≤ x) (h1 : x ≤ 255) : bits .and .i64 x 7 = x % 8 := by
  have h : ∀ n : Fin 256, Go.bits .and .i64 (n.val : Int) 7 = (n.val : Int) % 8 := by decide +kernel
  have := h ⟨x.toNat, by omega⟩
  dsimp only at this
  rw [show ((x.toNat : Nat) : Int) = x by omega] at this
  exact this
theorem hdr_length (L V M S P C d1 d2 d3 d4 d5 d6 d7 : Int) : (hdr L V M S P C d1 d2 d3 d4 d5 d6 d7).length = 48 := by
  simp [hdr, be_length]
theorem hdr_bytes {L V M S P C : Int} (hv : valid19 L V M S P C) (d1 d2 d3 d4 d5 d6 d7 : Int) : bytesOk (hdr L V M S P C d1 d2 d3 d4 d5 d6 d7) := by
  unfold valid19 at hv
  intro x hx
  unfold hdr at hx
  simp only [List.mem_append, List.mem_cons, List.not_mem_nil, or_false] at hx
  rcases hx with ((((((( rfl | rfl | rfl | rfl) | h) | h) | h) | h) | h) | h) | h
  · omega
  · omega
  · omega
  · omega
  all_goals exact be_bytes _ _ x h
theorem dec_hdr {L V M S P C : Int} (hv : valid19 L V M S P C) {d1 d2 d3 d4 d5 d6 d7 : Int} (h1 : 0 ≤ d1 ∧ d1 < 2 ^ 32) (h2 : 0 ≤ d2 ∧ d2 < 2 ^ 32) (h3 : 0 ≤ d3 ∧ d3 < 2 ^ 32)
    (h4 : 0 ≤ d4 ∧ d4 < 2 ^ 64) (h5 : 0 ≤ d5 ∧ d5 < 2 ^ 64) (h6 : 0 ≤ d6 ∧ d6 < 2 ^ 64) (h7 : 0 ≤ d7 ∧ d7 < 2 ^ 64) (r : List Int) (hr : bytesOk r) (hl : r.length ≤ 140737488354000) :
    ntpmsg_Decode.f (hdr L V M S P C d1 d2 d3 d4 d5 d6 d7 ++ r) = some (L, V, M, S, P, C, d1, d2, d3, d4, d5, d6, d7, r, 0) := by
  have hlen := hdr_length L V M S P C d1 d2 d3 d4 d5 d6 d7
  have hbo : bytesOk (hdr L V M S P C d1 d2 d3 d4 d5 d6 d7 ++ r) := by
    intro x hx
    rcases List.mem_append.1 hx with h | h
    · exact hdr_bytes hv _ _ _ _ _ _ _ x h
    · exact hr x h
  have t0 : (hdr L V M S P C d1 d2 d3 d4 d5 d6 d7 ++ r).take 1 = [L * 64 + V * 8 + M] := rfl
  have t1 : (hdr L V M S P C d1 d2 d3 d4 d5 d6 d7 ++ r).tail.take 1 = [S] := rfl
  have t2 : ((hdr L V M S P C d1 d2 d3 d4 d5 d6 d7 ++ r).drop 2).take 1 = [P % 256] := rfl
  have t3 : ((hdr L V M S P C d1 d2 d3 d4 d5 d6 d7 ++ r).drop 3).take 1 = [C % 256] := rfl
  have q : ∀ (pre mid post : List Int) (k s : Nat), hdr L V M S P C d1 d2 d3 d4 d5 d6 d7 ++ r = pre ++ (mid ++ post) → pre.length = k → mid.length = s → ((hdr L V M S P C d1 d2 d3 d4 d5 d6 d7 ++ r).drop k).take s = mid := by
    intro pre mid post k s e hk hs
    rw [e]; exact mid_of pre mid post k s hk hs
  have t4 := q [L * 64 + V * 8 + M, S, P % 256, C % 256] (be d1 4) (be d2 4 ++ be d3 4 ++ be d4 8 ++ be d5 8 ++ be d6 8 ++ be d7 8 ++ r) 4 4 (by simp [hdr]) rfl (be_length _ _)
  have t5 := q ([L * 64 + V * 8 + M, S, P % 256, C % 256] ++ be d1 4) (be d2 4) (be d3 4 ++ be d4 8 ++ be d5 8 ++ be d6 8 ++ be d7 8 ++ r) 8 4 (by simp [hdr]) (by simp [be_length]) (be_length _ _)
  have t6 := q ([L * 64 + V * 8 + M, S, P % 256, C % 256] ++ be d1 4 ++ be d2 4) (be d3 4) (be d4 8 ++ be d5 8 ++ be d6 8 ++ be d7 8 ++ r) 12 4 (by simp [hdr]) (by simp [be_length]) (be_length _ _)
  have t7 := q ([L * 64 + V * 8 + M, S, P % 256, C % 256] ++ be d1 4 ++ be d2 4 ++ be d3 4) (be d4 8) (be d5 8 ++ be d6 8 ++ be d7 8 ++ r) 16 8 (by simp [hdr]) (by simp [be_length]) (be_length _ _)
  have t8 := q ([L * 64 + V * 8 + M, S, P % 256, C % 256] ++ be d1 4 ++ be d2 4 ++ be d3 4 ++ be d4 8) (be d5 8) (be d6 8 ++ be d7 8 ++ r) 24 8 (by simp [hdr]) (by simp [be_length]) (be_length _ _)
  have t9 := q ([L * 64 + V * 8 + M, S, P % 256, C % 256] ++ be d1 4 ++ be d2 4 ++ be d3 4 ++ be d4 8 ++ be d5 8) (be d6 8) (be d7 8 ++ r) 32 8 (by simp [hdr]) (by simp [be_length]) (be_length _ _)
  have t10 := q ([L * 64 + V * 8 + M, S, P % 256, C % 256] ++ be d1 4 ++ be d2 4 ++ be d3 4 ++ be d4 8 ++ be d5 8 ++ be d6 8) (be d7 8) r 40 8 (by simp [hdr]) (by simp [be_length]) (be_length _ _)
  have t11 : (hdr L V M S P C d1 d2 d3 d4 d5 d6 d7 ++ r).drop 48 = r := by rw [← hlen, List.drop_left]
  have hlt : (hdr L V M S P C d1 d2 d3 d4 d5 d6 d7 ++ r).length = 48 + r.length := by rw [List.length_append, hlen]
  unfold ntpmsg_Decode.f
  rw [if_neg (by omega), if_pos ⟨by omega, hbo⟩, t0, t1, t2, t3, t4, t5, t6, t7, t8, t9, t10, t11]
  unfold valid19 at hv
  rw [acc_one _ (by omega) (by omega), acc_one _ (by omega) (by omega), acc_one _ (by omega) (by omega), acc_one _ (by omega) (by omega), up_one P (by omega) (by omega), up_one C (by omega) (by omega),
    acc_be d1 4 h1.1 (by simpa using h1.2) (by omega), acc_be d2 4 h2.1 (by simpa using h2.2) (by omega), acc_be d3 4 h3.1 (by simpa using h3.2) (by omega), acc_be d4 8 h4.1 (by simpa using h4.2) (by omega), acc_be d5 8 h5.1 (by simpa using h5.2) (by omega), acc_be d6 8 h6.1 (by simpa using h6.2) (by omega), acc_be d7 8 h7.1 (by simpa using h7.2) (by omega)]
  have e0 : wrap64 (L * 64 + V * 8 + M) = L * 64 + V * 8 + M := by unfold wrap64; omega
  have e1 : wrap64 S = S := by unfold wrap64; omega
  rw [e0, e1, and_seven _ (by omega) (by omega), and_seven _ (by omega) (by omega)]
  have e2 : (L * 64 + V * 8 + M) / 8 % 8 = V := by omega
  have e3 : (L * 64 + V * 8 + M) / 64 = L := by omega
  have e4 : (L * 64 + V * 8 + M) % 8 = M := by omega
  have e5 : d1 % 4294967296 = d1 := by omega
  have e6 : d2 % 4294967296 = d2 := by omega
  have e7 : d3 % 4294967296 = d3 := by omega
  rw [e2, e3, e4, e5, e6, e7, if_neg (by omega)]
end Go.Proofs.Ytpmkggcmnelhhaa.P
namespace Go.Proofs.Ytpmkggcmnelhhaa.P
open Go.RowKit Go.Proofs.YtpmkggcmnelhhaaW.PrintWords Go.Proofs.YtpmkggcmnelhhaaW.PrintLast Go.Proofs.YtpmkggcmnelhhaaW.PrintMore Go.Proofs.Ytpmkggcmnelhhaa.Rd

theorem val_div {l : List Int} (h : bytesOk l) (k : Nat) : ∀ d, val l (k + d) / 2 ^ (8 * d) = val l k := by
  intro d
  induction d with
  | zero => simp
  | succ d ih =>
    obtain ⟨r0, r1⟩ := rd_byte h (k + d)
    rw [show k + (d + 1) = (k + d) + 1 by omega, val, show 8 * (d + 1) = 8 + 8 * d by omega, Int.pow_add, ← Int.ediv_ediv_of_nonneg (by decide), show (2 : Int) ^ 8 = 256 from rfl]
    have e : (val l (k + d) * 256 + rd l ((k + d : Nat) : Int)) / 256 = val l (k + d) := by omega
    rw [e, ih]
theorem be_val {l : List Int} (h : bytesOk l) (s : Nat) (hs : l.length = s) : be (val l s) s = l := by
  apply List.ext_getElem
  · rw [be_length, hs]
  · intro i h1 h2
    rw [be_length] at h1
    have e : val l s / 2 ^ (8 * (s - 1 - i)) = val l (i + 1) := by
      have := val_div h (i + 1) (s - 1 - i)
      rw [show i + 1 + (s - 1 - i) = s by omega] at this
      exact this
    have e2 : (be (val l s) s)[i] = digit (val l s) s i := by
      simp [be]
    rw [e2]
    unfold digit
    rw [e, val]
    obtain ⟨r0, r1⟩ := rd_byte h i
    have e3 : rd l (i : Int) = l[i] := by
      unfold rd
      rw [Int.toNat_natCast, List.getD_eq_getElem?_getD, List.getElem?_eq_getElem h2]
      rfl
    rw [e3] at r0 r1 ⊢
    omega
theorem up_byte (c : Int) (h0 : 0 ≤ c) (h1 : c ≤ 255) : upDown c 1 = if c > 127 then c - 256 else c := by
  unfold upDown
  rw [IntKind.wrap_u64, show (2 : Int) ^ (64 - 8 * 1) = 72057594037927936 from rfl]
  unfold wrap64
  split <;> omega
/-- A list of at least 48 bytes, taken apart. -/
theorem apart48 (l : List Int) (hl : 48 ≤ l.length) : ∃ a b c d r, l = a :: b :: c :: d :: r ∧ 44 ≤ r.length := by
  match l, hl with
  | a :: b :: c :: d :: r, h => exact ⟨a, b, c, d, r, rfl, by simp at h; omega⟩
theorem take_add {α : Type} (l : List α) (k s : Nat) : l.take k ++ (l.drop k).take s = l.take (k + s) := (List.take_add).symm
end Go.Proofs.Ytpmkggcmnelhhaa.P
