/- The law WireAppends over numbers and lists. -/
import Derived.Test.YteiogfmfcmfpjaaPx11
import Derived.Test.YteiogfmfcmfpjaaPureAccG
namespace Go.Proofs.Yteiogfmfcmfpjaa.Pure
open Go.RowKit Go.Proofs.Yteiogfmfcmfpjaa.P Go.Proofs.YteiogfmfcmfpjaaW.PrintWords Go.Proofs.YteiogfmfcmfpjaaW.PrintLast Go.Proofs.YteiogfmfcmfpjaaW.PrintMore Go.Proofs.Yteiogfmfcmfpjaa.Rd

theorem eq_l0 (l : List Int) (hl : l.length ≤ 140737488355328) : ∀ (d i k : Nat), l.length = i + d → d < k → slices_Equal_byte_byte.l0 k l l l.length i = some true := by
  intro d
  induction d with
  | zero =>
    intro i k hi hk
    obtain ⟨k, rfl⟩ : ∃ k', k = k' + 1 := ⟨k - 1, by omega⟩
    rw [slices_Equal_byte_byte.l0, if_neg (by omega)]
  | succ d ih =>
    intro i k hi hk
    obtain ⟨k, rfl⟩ : ∃ k', k = k' + 1 := ⟨k - 1, by omega⟩
    have e2 : wrap64 ((i : Int) + 1) = ((i + 1 : Nat) : Int) := by unfold wrap64; omega
    rw [slices_Equal_byte_byte.l0, if_pos (by omega), if_pos (by omega), if_pos (by omega), if_pos (by omega), if_pos rfl, e2]
    exact ih (i + 1) k (by omega) (by omega)
theorem eq_self (l : List Int) (hl : l.length ≤ 140737488355328) (k : Nat) (hk : l.length < k) : slices_Equal_byte_byte.f k l l = some true := by
  unfold slices_Equal_byte_byte.f
  rw [if_pos rfl]
  exact eq_l0 l hl l.length 0 k (by omega) hk
theorem ref_loop (n : Int) (s : Nat) (h8 : s ≤ 8) (l : List Int) (hl : l.length ≤ 5000) : ∀ (m k : Nat), m ≤ s → m < k → timesyncref02_Append.l0 k n (l ++ (be n s).take (s - m)) ((m : Int) - 1) = some (l ++ be n s, 0) := by
  intro m
  induction m with
  | zero =>
    intro k _ hk
    obtain ⟨k, rfl⟩ : ∃ k', k = k' + 1 := ⟨k - 1, by omega⟩
    rw [timesyncref02_Append.l0, if_neg (by omega), List.take_of_length_le (by rw [be_length]; omega)]
  | succ m ih =>
    intro k hm hk
    obtain ⟨k, rfl⟩ : ∃ k', k = k' + 1 := ⟨k - 1, by omega⟩
    have e1 : ((m + 1 : Nat) : Int) - 1 = m := by omega
    have e2 : wrap64 (8 * (m : Int)) = ((8 * m : Nat) : Int) := by unfold wrap64; omega
    have e3 : wrap64 ((m : Int) - 1) = (m : Int) - 1 := by unfold wrap64; omega
    have e4 : shr .u64 n ((8 * m : Nat) : Int) % 256 = digit n s (s - (m + 1)) := by
      unfold shr digit
      rw [Int.toNat_natCast, Nat.min_eq_left (by show 8 * m ≤ 64; omega), show s - 1 - (s - (m + 1)) = m by omega]
    have e5 : (be n s).take (s - (m + 1)) ++ [digit n s (s - (m + 1))] = (be n s).take (s - m) := by
      have h : s - m = s - (m + 1) + 1 := by omega
      rw [h, List.take_add_one]
      congr 1
      unfold be
      rw [List.getElem?_map, List.getElem?_range (by omega)]
      rfl
    have hlen : (l ++ (be n s).take (s - (m + 1))).length < 140737488355328 := by
      rw [List.length_append, List.length_take, be_length]; omega
    rw [timesyncref02_Append.l0, e1, if_pos (by omega), e2, if_pos (by omega), if_pos hlen, e3, e4, List.append_assoc, e5]
    exact ih k (by omega) (by omega)
theorem app_same (l : List Int) (hl : l.length ≤ 5000) (n size : Int) (h0 : 0 ≤ n) (hs : -9223372036854775808 ≤ size ∧ size ≤ 9223372036854775807) (k : Nat) (hk : 20 < k) :
    ∃ r, wire_Append.f l n size = some r ∧ timesyncref02_Append.f k l n size = some r ∧ r.1.length ≤ l.length + 8 := by
  unfold timesyncref02_Append.f
  obtain ⟨k, rfl⟩ : ∃ k', k = k' + 1 := ⟨k - 1, by omega⟩
  by_cases h1 : 1 ≤ size
  · by_cases h8 : size ≤ 8
    · obtain ⟨s, rfl⟩ := Int.eq_ofNat_of_zero_le (show 0 ≤ size by omega)
      have hs8 : s ≤ 8 := by omega
      rw [if_neg (by omega), decide_eq_false (by omega), timesyncref02_Append.j0, if_neg (by simp)]
      have e2 : wrap64 (8 * (s : Int)) = ((8 * s : Nat) : Int) := by unfold wrap64; omega
      have e3 : wrap64 ((s : Int) - 1) = (s : Int) - 1 := by unfold wrap64; omega
      have esh : shr .u64 n ((8 * s : Nat) : Int) = n / 2 ^ (8 * s) := by
        unfold shr
        rw [Int.toNat_natCast, Nat.min_eq_left (by show 8 * s ≤ 64; omega)]
      have hfit : timesyncref02_fits.f n s = some (decide ((s : Int) = 8 ∨ n / 2 ^ (8 * s) = 0)) := by
        unfold timesyncref02_fits.f
        by_cases h : (s : Int) = 8
        · rw [if_pos h]; simp [h]
        · rw [if_neg h, e2, if_pos (by omega), esh]
          simp only [h, false_or]
          rfl
      rw [hfit, Option.bind_some]
      unfold wire_Append.f
      rw [if_pos h0, if_pos ⟨h1, h8⟩, Int.toNat_natCast]
      by_cases hf : (s : Int) = 8 ∨ n / 2 ^ (8 * s) = 0
      · rw [if_pos (decide_eq_true hf), if_neg (by omega), if_pos (by omega)]
        simp only [Option.bind_some, List.nil_append, List.length_nil]
        rw [if_pos (by omega), e3]
        have := ref_loop n s hs8 l hl s k (by omega) (by omega)
        rw [Nat.sub_self, List.take_zero, List.append_nil] at this
        exact ⟨_, rfl, this, by simp; omega⟩
      · rw [if_neg (show ¬ (decide ((s : Int) = 8 ∨ n / 2 ^ (8 * s) = 0) = true) from by rw [decide_eq_false hf]; simp), if_pos (show (s : Int) < 8 ∧ n / 2 ^ (8 * s) ≠ 0 from ⟨by omega, fun h => hf (.inr h)⟩)]
        exact ⟨_, rfl, rfl, by simp⟩
    · rw [if_neg (by omega), decide_eq_true (by omega), timesyncref02_Append.j0, if_pos rfl]
      unfold wire_Append.f
      rw [if_pos h0, if_neg (by omega)]
      exact ⟨_, rfl, rfl, by simp⟩
  · rw [if_pos (by omega), timesyncref02_Append.j0, if_pos rfl]
    unfold wire_Append.f
    rw [if_pos h0, if_neg (by omega)]
    exact ⟨_, rfl, rfl, by simp⟩
theorem turn_loop (x0 x7 : List Int) (h7 : x0.length ≤ x7.length) (ht : x7.take x0.length = x0) (hl : x0.length ≤ 5000) (n : Nat) (hn : n ≤ 6000) : ∀ (d i k : Nat) (x8 : List Int), x8.length = n → i + d = n → d + 5010 < k →
    timesynclaw02_WireAppends.l0 k x0 x7 x8 n i = some true := by
  intro d
  induction d with
  | zero =>
    intro i k x8 h8 hi hk
    obtain ⟨k, rfl⟩ : ∃ k', k = k' + 1 := ⟨k - 1, by omega⟩
    rw [timesynclaw02_WireAppends.l0, if_neg (by omega), if_pos (by omega), if_pos (by omega), Int.toNat_natCast, ht, eq_self x0 (by omega) k (by omega)]
    simp [timesynclaw02_awake.f]
  | succ d ih =>
    intro i k x8 h8 hi hk
    obtain ⟨k, rfl⟩ : ∃ k', k = k' + 1 := ⟨k - 1, by omega⟩
    have e2 : wrap64 ((i : Int) + 1) = ((i + 1 : Nat) : Int) := by unfold wrap64; omega
    rw [timesynclaw02_WireAppends.l0, if_pos (by omega), if_pos (by omega), if_pos (by omega), e2]
    exact ih (i + 1) k _ (by rw [List.length_set]; exact h8) (by omega) (by omega)
theorem WireAppends : timesynclaw02_WireAppends.Pure := by
  intro l n size hl _ _ hn hs
  refine ⟨20000, ?_⟩
  simp [Lit.wf, IntKind.bits, IntKind.signed, IntKind.min, IntKind.max] at hn hs
  unfold timesynclaw02_WireAppends.f
  by_cases hlen : (l.length : Int) > 5000
  · rw [if_pos hlen]
    simp [timesynclaw02_awake.f]
  rw [if_neg hlen]
  unfold slices_Clone_byte_byte.f
  rw [if_pos (by omega)]
  simp only [Option.bind_some]
  rw [if_pos (by simp; omega), if_pos (by omega), if_pos (by rw [List.length_append]; omega), Int.toNat_natCast, List.take_left' rfl, List.drop_left' rfl]
  obtain ⟨r, g1, g2, g3⟩ := app_same l (by omega) n size (by omega) hs 20000 (by omega)
  rw [g1, g2]
  simp only [Option.bind_some, if_true]
  rw [eq_self r.1 (by omega) 20000 (by omega), eq_self l (by omega) 20000 (by omega)]
  simp only [Option.bind_some, if_true]
  have e9 : slices_Equal_byte_byte.f 20000 [9, 9, 9, 9, 9, 9, 9, 9] [9, 9, 9, 9, 9, 9, 9, 9] = some true := eq_self _ (by simp) 20000 (by simp)
  rw [e9]
  simp only [Option.bind_some, Bool.not_true]
  rw [timesynclaw02_WireAppends.j0, if_neg (by simp)]
  exact turn_loop l _ (by simp) (List.take_left' rfl) (by omega) r.1.length (by omega) r.1.length 0 19999 r.1 rfl (by omega) (by omega)
end Go.Proofs.Yteiogfmfcmfpjaa.Pure
