/- The reference's Field and Interval answer as the program's. -/
import Derived.Test.YthneihebdlppeaaPureIv30
import Derived.Test.YthneihebdlppeaaPx25
import Derived.Test.YthneihebdlppeaaPx29
import Derived.Test.YthneihebdlppeaaPx20
namespace Go.Proofs.Ythneihebdlppeaa.P
open Go.RowKit Go.Proofs.YthneihebdlppeaaW.PrintWords Go.Proofs.YthneihebdlppeaaW.PrintLast Go.Proofs.YthneihebdlppeaaW.PrintMore Go.Proofs.Ythneihebdlppeaa.Rd

theorem eqs_l0 (l : List Int) (hl : l.length ≤ 140737488355328) : ∀ (d i k : Nat), l.length = i + d → d < k → slices_Equal_byte_byte.l0 k l l l.length i = some true := by
  intro d
  induction d with
  | zero =>
    intro i k hi hk
    obtain ⟨k, rfl⟩ : ∃ k', k = k' + 1 := ⟨k - 1, by omega⟩
    rw [slices_Equal_byte_byte.l0, if_neg (by omega)]
  | succ d ih =>
    intro i k hi hk
    obtain ⟨k, rfl⟩ : ∃ k', k = k' + 1 := ⟨k - 1, by omega⟩
    have e2 : wrap64 ((i : Int) + 1) = ((i + 1 : Nat) : Int) := by unfold wrap64; omega
    rw [slices_Equal_byte_byte.l0, if_pos (by omega), if_pos (by omega), if_pos (by omega), if_pos (by omega), if_pos rfl, e2]
    exact ih (i + 1) k (by omega) (by omega)
theorem eqs_self (l : List Int) (hl : l.length ≤ 140737488355328) (k : Nat) (hk : l.length < k) : slices_Equal_byte_byte.f k l l = some true := by
  unfold slices_Equal_byte_byte.f
  rw [if_pos rfl]
  exact eqs_l0 l hl l.length 0 k (by omega) hk
theorem ref_chk (lo hi : Int) : timesyncref11_Check.f lo hi = some (if chkV lo hi then 0 else 3) := drift_chk lo hi
theorem refa_loop (n : Int) (s : Nat) (h8 : s ≤ 8) (l : List Int) (hl : l.length ≤ 5000) : ∀ (m k : Nat), m ≤ s → m < k → timesyncref02_Append.l0 k n (l ++ (be n s).take (s - m)) ((m : Int) - 1) = some (l ++ be n s, 0) := by
  intro m
  induction m with
  | zero =>
    intro k _ hk
    obtain ⟨k, rfl⟩ : ∃ k', k = k' + 1 := ⟨k - 1, by omega⟩
    rw [timesyncref02_Append.l0, if_neg (by omega), List.take_of_length_le (by rw [be_length]; omega)]
  | succ m ih =>
    intro k hm hk
    obtain ⟨k, rfl⟩ : ∃ k', k = k' + 1 := ⟨k - 1, by omega⟩
    have e1 : ((m + 1 : Nat) : Int) - 1 = m := by omega
    have e2 : wrap64 (8 * (m : Int)) = ((8 * m : Nat) : Int) := by unfold wrap64; omega
    have e3 : wrap64 ((m : Int) - 1) = (m : Int) - 1 := by unfold wrap64; omega
    have e4 : shr .u64 n ((8 * m : Nat) : Int) % 256 = digit n s (s - (m + 1)) := by
      unfold shr digit
      rw [Int.toNat_natCast, Nat.min_eq_left (by show 8 * m ≤ 64; omega), show s - 1 - (s - (m + 1)) = m by omega]
    have e5 : (be n s).take (s - (m + 1)) ++ [digit n s (s - (m + 1))] = (be n s).take (s - m) := by
      have h : s - m = s - (m + 1) + 1 := by omega
      rw [h, List.take_add_one]
      congr 1
      unfold be
      rw [List.getElem?_map, List.getElem?_range (by omega)]
      rfl
    have hlen : (l ++ (be n s).take (s - (m + 1))).length < 140737488355328 := by
      rw [List.length_append, List.length_take, be_length]; omega
    rw [timesyncref02_Append.l0, e1, if_pos (by omega), e2, if_pos (by omega), if_pos hlen, e3, e4, List.append_assoc, e5]
    exact ih k (by omega) (by omega)
theorem refa (l : List Int) (hl : l.length ≤ 5000) (n : Int) (k : Nat) (hk : 20 < k) : timesyncref02_Append.f k l n 8 = some (l ++ be n 8, 0) := by
  obtain ⟨k, rfl⟩ : ∃ k', k = k' + 1 := ⟨k - 1, by omega⟩
  have h := refa_loop n 8 (by decide) l hl 8 k (by decide) (by omega)
  rw [show 8 - 8 = 0 from rfl, List.take_zero, List.append_nil] at h
  have e1 : wrap64 (8 - 1) = ((8 : Nat) : Int) - 1 := by decide +kernel
  have hf : timesyncref02_fits.f n 8 = some true := by
    unfold timesyncref02_fits.f
    rw [if_pos rfl]
  unfold timesyncref02_Append.f
  rw [if_neg (by decide), decide_eq_false (by decide), timesyncref02_Append.j0, if_neg (by decide), hf, Option.bind_some, if_pos rfl, Option.bind_some, if_pos (by simp; omega), List.nil_append, e1]
  exact h
theorem ref_field (lo hi : Int) (k : Nat) (hk : 20 < k) : timesyncref30_Field.f k lo hi = some (fieldV lo hi) := by
  unfold timesyncref30_Field.f fieldV
  rw [ref_chk, Option.bind_some]
  by_cases h : chkV lo hi
  · rw [if_pos h, if_pos rfl, if_pos h, refa [] (by simp) _ k hk, Option.bind_some, List.nil_append, refa _ (by rw [be_length]; decide) _ k hk, Option.bind_some]
  · rw [if_neg h, if_neg (by omega), if_neg h]
theorem rd_cut (l : List Int) (a s i : Nat) (hi : i < s) : rd ((l.drop a).take s) (i : Int) = rd l ((a + i : Nat) : Int) := by
  unfold rd
  rw [Int.toNat_natCast, Int.toNat_natCast, List.getD_eq_getElem?_getD, List.getD_eq_getElem?_getD, List.getElem?_take_of_lt hi, List.getElem?_drop]
theorem uw (x : Int) (h0 : 0 ≤ x) (h1 : x < 256) : IntKind.u64.wrap x = x := by rw [IntKind.wrap_u64]; omega
theorem refg_loop (l : List Int) (hB : bytesOk l) (a : Nat) (ha : a + 8 ≤ l.length) (hl : l.length ≤ 100) : ∀ (m i k : Nat), i + m = 8 → m < k → timesyncref02_Get.l0 k l a 8 (acc ((l.drop a).take 8) i) i = some (acc ((l.drop a).take 8) 8, 0) := by
  intro m
  induction m with
  | zero =>
    intro i k hi hk
    obtain ⟨k, rfl⟩ : ∃ k', k = k' + 1 := ⟨k - 1, by omega⟩
    obtain rfl : i = 8 := by omega
    rw [timesyncref02_Get.l0, if_neg (by decide)]
  | succ m ih =>
    intro i k hi hk
    obtain ⟨k, rfl⟩ : ∃ k', k = k' + 1 := ⟨k - 1, by omega⟩
    have e1 : wrap64 ((a : Int) + i) = ((a + i : Nat) : Int) := (sw30 _ (by omega) (by omega)).trans (by omega)
    have e2 : wrap64 ((i : Int) + 1) = ((i + 1 : Nat) : Int) := (sw30 _ (by omega) (by omega)).trans (by omega)
    have e3 : IntKind.u64.wrap (rd l ((a + i : Nat) : Int)) = rd l ((a + i : Nat) : Int) := uw _ (rd_byte hB _).1 (Int.lt_of_le_of_lt (rd_byte hB _).2 (by decide))
    have c1 : (i : Int) < 8 := by omega
    have c2 : (0 : Int) ≤ ((a + i : Nat) : Int) := by omega
    have c3 : ((a + i : Nat) : Int) < (l.length : Int) := by omega
    rw [timesyncref02_Get.l0, if_pos c1, e1, e2, if_pos c2, if_pos c3, e3, ← rd_cut l a 8 i (by omega)]
    exact ih (i + 1) k (by omega) (by omega)
theorem refg (l : List Int) (hB : bytesOk l) (a : Nat) (ha : a + 8 ≤ l.length) (hl : l.length ≤ 100) (k : Nat) (hk : 20 < k) : timesyncref02_Get.f k l a 8 = some (acc ((l.drop a).take 8) 8, 0) := by
  obtain ⟨k, rfl⟩ : ∃ k', k = k' + 2 := ⟨k - 2, by omega⟩
  have h := refg_loop l hB a ha hl 8 0 k (by decide) (by omega)
  have e1 : wrap64 ((l.length : Int) - a) = (l.length : Int) - a := sw30 _ (by omega) (by omega)
  have c1 : ¬ ((a : Int) < 0) := by omega
  have c2 : ¬ ((a : Int) > (l.length : Int)) := by omega
  have c3 : ¬ ((l.length : Int) - a < 8) := by omega
  unfold timesyncref02_Get.f
  rw [if_neg (by decide), decide_eq_false (by decide), timesyncref02_Get.j0, if_neg (by decide), if_neg c1, if_neg c2, e1, decide_eq_false c3, timesyncref02_Get.j1, if_neg (by decide)]
  exact h
theorem bytes_take {l : List Int} (h : bytesOk l) (n : Nat) : bytesOk (l.take n) := fun x hx => h x (List.mem_of_mem_take hx)
theorem bytes_drop {l : List Int} (h : bytesOk l) (n : Nat) : bytesOk (l.drop n) := fun x hx => h x (List.mem_of_mem_drop hx)
theorem ref_read (b : List Int) (hb : bytesOk b) (k : Nat) (hk : 20 < k) : timesyncref30_read.f k b = some (readV b) := by
  unfold timesyncref30_read.f readV
  by_cases h : b.length = 16
  · have g1 := refg b hb 0 (by omega) (by omega) k hk
    have g2 := refg b hb 8 (by omega) (by omega) k hk
    rw [List.drop_zero] at g1
    have e1 : wrap64 (acc (b.take 8) 8) = ivLo b := (upDown8 _).symm
    have e2 : wrap64 (acc ((b.drop 8).take 8) 8) = ivHi b := (upDown8 _).symm
    have z0 : ((0 : Nat) : Int) = 0 := rfl
    have z8 : ((8 : Nat) : Int) = 8 := rfl
    rw [z0] at g1
    rw [z8] at g2
    rw [if_pos (by omega), if_pos h, g1, Option.bind_some, g2, Option.bind_some]
    simp only [e1, e2]
    rw [ref_chk, Option.bind_some]
    by_cases hc : chkV (ivLo b) (ivHi b)
    · rw [if_pos hc, if_pos rfl, if_pos hc]
    · rw [if_neg hc, if_neg (by omega), if_neg hc]
  · rw [if_neg (by omega), if_neg h]
theorem ref_iv_loop (l : List S50) (hl : l.length ≤ 140737488355328) (hs : ∀ x ∈ l, bytesOk x.f1) : ∀ (d i k : Nat), i + d = l.length → d + 21 < k → timesyncref30_Interval.l0 k l i = some (ivV (l.drop i)) := by
  intro d
  induction d with
  | zero =>
    intro i k hi hk
    obtain ⟨k, rfl⟩ : ∃ k', k = k' + 1 := ⟨k - 1, by omega⟩
    rw [timesyncref30_Interval.l0, if_neg (by omega), List.drop_of_length_le (by omega)]
    rfl
  | succ d ih =>
    intro i k hi hk
    obtain ⟨k, rfl⟩ : ∃ k', k = k' + 1 := ⟨k - 1, by omega⟩
    have hil : i < l.length := by omega
    have e2 : wrap64 ((i : Int) + 1) = ((i + 1 : Nat) : Int) := (sw30 _ (by omega) (by omega)).trans (by omega)
    rw [timesyncref30_Interval.l0, if_pos (by omega), if_pos (by omega), rd50 l i hil]
    by_cases h : l[i].f0 = 28929
    · rw [if_pos h, ref_read _ (hs _ (List.getElem_mem hil)) k (by omega), Option.bind_some]
      unfold ivV
      rw [List.drop_eq_getElem_cons hil, List.find?_cons_of_pos (by simp [isIv, h])]
    · rw [if_neg h, e2, ih (i + 1) k (by omega) (by omega)]
      unfold ivV
      rw [List.drop_eq_getElem_cons hil, List.find?_cons_of_neg (by simp [isIv, h])]
theorem ref_interval (l : List S50) (hl : l.length ≤ 140737488355328) (hs : ∀ x ∈ l, bytesOk x.f1) (k : Nat) (hk : l.length + 21 < k) : timesyncref30_Interval.f k l = some (ivV l) := by
  unfold timesyncref30_Interval.f
  have := ref_iv_loop l hl hs l.length 0 k (by omega) hk
  rwa [List.drop_zero] at this
end Go.Proofs.Ythneihebdlppeaa.P
