/- The reference's numbers: Get of all of a slice, and the signed number that Int reckons. -/
import Derived.Test.YteiogfmfcmfpjaaPureAccG
import Derived.Test.YteiogfmfcmfpjaaPx3
namespace Go.Proofs.Yteiogfmfcmfpjaa.Rd
open Go.RowKit Go.Proofs.YteiogfmfcmfpjaaW.PrintWords Go.Proofs.YteiogfmfcmfpjaaW.PrintLast Go.Proofs.YteiogfmfcmfpjaaW.PrintMore
open Go.Proofs.Yteiogfmfcmfpjaa.P

theorem rsw (x : Int) (h0 : 0 ≤ x) (h1 : x ≤ 1000000) : wrap64 x = x := by unfold wrap64; omega
theorem ruw (x : Int) (h0 : 0 ≤ x) (h1 : x < 256) : IntKind.u64.wrap x = x := by rw [IntKind.wrap_u64]; omega
theorem rget_loop (l : List Int) (s : Nat) (hb : l.length = s) (hB : bytesOk l) (h8 : s ≤ 8) : ∀ (m i k : Nat), i + m = s → m < k → timesyncref02_Get.l0 k l 0 s (acc l i) i = some (acc l s, 0) := by
  intro m
  induction m with
  | zero =>
    intro i k hi hk
    obtain ⟨k, rfl⟩ : ∃ k', k = k' + 1 := ⟨k - 1, by omega⟩
    obtain rfl : i = s := by omega
    rw [timesyncref02_Get.l0, if_neg (Int.lt_irrefl _)]
  | succ m ih =>
    intro i k hi hk
    obtain ⟨k, rfl⟩ : ∃ k', k = k' + 1 := ⟨k - 1, by omega⟩
    have e1 : wrap64 ((0 : Int) + i) = (i : Int) := (rsw _ (by omega) (by omega)).trans (by omega)
    have e2 : wrap64 ((i : Int) + 1) = ((i + 1 : Nat) : Int) := (rsw _ (by omega) (by omega)).trans (by omega)
    have e3 : IntKind.u64.wrap (rd l (i : Int)) = rd l (i : Int) := ruw _ (rd_byte hB i).1 (Int.lt_of_le_of_lt (rd_byte hB i).2 (by decide))
    have c1 : (i : Int) < (s : Int) := by omega
    have c2 : (0 : Int) ≤ (i : Int) := by omega
    have c3 : (i : Int) < (l.length : Int) := by omega
    rw [timesyncref02_Get.l0, if_pos c1, e1, e2, if_pos c2, if_pos c3, e3]
    exact ih (i + 1) k (by omega) (by omega)
theorem rget_all (l : List Int) (s : Nat) (hb : l.length = s) (hB : bytesOk l) (h1 : 1 ≤ s) (h8 : s ≤ 8) : timesyncref02_Get.f 20 l 0 s = some (acc l s, 0) := by
  have h := rget_loop l s hb hB h8 s 0 18 (by omega) (by omega)
  have e1 : wrap64 ((l.length : Int) - 0) = (s : Int) := (rsw _ (by omega) (by omega)).trans (by omega)
  have c0 : ¬ ((s : Int) < 1) := by omega
  have c1 : ¬ ((s : Int) > 8) := by omega
  have c2 : ¬ ((0 : Int) > (l.length : Int)) := by omega
  unfold timesyncref02_Get.f
  rw [if_neg c0, decide_eq_false c1, timesyncref02_Get.j0, if_neg (by decide), if_neg (by decide), if_neg c2, e1, decide_eq_false (Int.lt_irrefl _), timesyncref02_Get.j1, if_neg (by decide)]
  exact h
/-- Get of nothing answers 0, and some error. -/
theorem rget_nil (n : Int) : ∃ e, timesyncref02_Get.f 20 [] 0 n = some (0, e) := by
  unfold timesyncref02_Get.f
  by_cases h1 : n < 1
  · rw [if_pos h1, timesyncref02_Get.j0, if_pos rfl]; exact ⟨_, rfl⟩
  · rw [if_neg h1]
    by_cases h8 : n > 8
    · rw [decide_eq_true h8, timesyncref02_Get.j0, if_pos rfl]; exact ⟨_, rfl⟩
    · have e1 : wrap64 ((([] : List Int).length : Int) - 0) = 0 := by decide +kernel
      have c : (0 : Int) < n := by omega
      rw [decide_eq_false h8, timesyncref02_Get.j0, if_neg (by decide), if_neg (by decide), if_neg (by decide), e1, decide_eq_true c, timesyncref02_Get.j1, if_pos rfl]
      exact ⟨_, rfl⟩

/-- What Int gathers from a start on. -/
def sacc (l : List Int) (z : Int) : Nat → Int
  | 0 => z
  | k + 1 => Go.bits .or .u64 (IntKind.u64.wrap (sacc l z k * 256)) (rd l k)
theorem or_low (x b : Int) (h0 : 0 ≤ x) (h1 : x < 18446744073709551616) (hm : x % 256 = 0) (b0 : 0 ≤ b) (b1 : b < 256) : Go.bits .or .u64 x b = x + b := by
  obtain ⟨c, hc⟩ := Int.eq_ofNat_of_zero_le b0
  have h2 := or_byte (x / 256).toNat c (by omega) (by omega)
  have e1 : (((x / 256).toNat : Nat) : Int) * 256 = x := by omega
  rw [e1] at h2
  have e2 : IntKind.u64.wrap x = x := by rw [IntKind.wrap_u64]; omega
  rw [e2] at h2
  rw [hc, h2]
  omega
theorem sacc_step {l : List Int} (hB : bytesOk l) (z : Int) (k : Nat) : sacc l z (k + 1) = IntKind.u64.wrap (sacc l z k * 256) + rd l k := by
  have hr := rd_byte hB k
  have hx : 0 ≤ IntKind.u64.wrap (sacc l z k * 256) ∧ IntKind.u64.wrap (sacc l z k * 256) < 18446744073709551616 ∧ IntKind.u64.wrap (sacc l z k * 256) % 256 = 0 := by
    rw [IntKind.wrap_u64]; omega
  rw [sacc, or_low _ _ hx.1 hx.2.1 hx.2.2 hr.1 (Int.lt_of_le_of_lt hr.2 (by decide))]
/-- The same without the wrapping. -/
theorem sacc_mod {l : List Int} (hB : bytesOk l) (z : Int) (hz0 : 0 ≤ z) (hz1 : z < 18446744073709551616) : ∀ k, sacc l z k = (z * 256 ^ k + val l k) % 18446744073709551616
  | 0 => by rw [sacc, val, Int.pow_zero, Int.mul_one, Int.add_zero, Int.emod_eq_of_lt hz0 hz1]
  | k + 1 => by
    have hr := rd_byte hB k
    rw [sacc_step hB, sacc_mod hB z hz0 hz1 k, val, Int.pow_succ, IntKind.wrap_u64, ← Int.mul_assoc]
    generalize z * 256 ^ k = a
    generalize val l k = v
    generalize rd l (k : Int) = r at hr
    omega
theorem val_first {l : List Int} (hB : bytesOk l) : ∀ k, rd l 0 * 256 ^ k ≤ val l (k + 1) ∧ val l (k + 1) < (rd l 0 + 1) * 256 ^ k
  | 0 => by
    rw [val, val, Int.pow_zero]
    simp only [Int.natCast_zero]
    generalize rd l 0 = r
    omega
  | k + 1 => by
    obtain ⟨h1, h2⟩ := val_first hB k
    have hr := rd_byte hB (k + 1)
    rw [val, Int.pow_succ, ← Int.mul_assoc, ← Int.mul_assoc]
    generalize rd l 0 * 256 ^ k = a at h1
    generalize (rd l 0 + 1) * 256 ^ k = c at h2
    generalize val l (k + 1) = v at h1 h2
    generalize rd l ((k + 1 : Nat) : Int) = r at hr
    omega
theorem signed_ok {l : List Int} (hB : bytesOk l) (s : Nat) (h1 : 1 ≤ s) (h8 : s ≤ 8) (z : Int) (hz : (z = 0 ∧ rd l 0 < 128) ∨ (z = 18446744073709551615 ∧ 128 ≤ rd l 0)) : wrap64 (sacc l z s) = upDown (acc l s) s := by
  obtain ⟨k, rfl⟩ : ∃ k, s = k + 1 := ⟨s - 1, by omega⟩
  have hv := val_first hB k
  have hr := rd_byte hB 0
  rw [sacc_mod hB z (by omega) (by omega), acc_val hB _ h8]
  unfold upDown
  rw [IntKind.wrap_u64]
  simp only [Int.natCast_zero] at hr
  generalize val l (k + 1) = v at hv ⊢
  generalize rd l 0 = r at hv hr hz
  have hk : k = 0 ∨ k = 1 ∨ k = 2 ∨ k = 3 ∨ k = 4 ∨ k = 5 ∨ k = 6 ∨ k = 7 := by omega
  have p0 : (256 : Int) ^ 0 = 1 := rfl
  have p1 : (256 : Int) ^ 1 = 256 := rfl
  have p2 : (256 : Int) ^ 2 = 65536 := rfl
  have p3 : (256 : Int) ^ 3 = 16777216 := rfl
  have p4 : (256 : Int) ^ 4 = 4294967296 := rfl
  have p5 : (256 : Int) ^ 5 = 1099511627776 := rfl
  have p6 : (256 : Int) ^ 6 = 281474976710656 := rfl
  have p7 : (256 : Int) ^ 7 = 72057594037927936 := rfl
  have p8 : (256 : Int) ^ 8 = 18446744073709551616 := rfl
  unfold wrap64
  rcases hk with rfl | rfl | rfl | rfl | rfl | rfl | rfl | rfl
  · rw [p0] at hv; rw [show (0 + 1 : Nat) = 1 from rfl, p1, show (2 : Int) ^ (64 - 8 * 1) = 72057594037927936 from rfl]; clear p0 p1 p2 p3 p4 p5 p6 p7 p8; rcases hz with ⟨rfl, _⟩ | ⟨rfl, _⟩ <;> omega
  · rw [p1] at hv; rw [show (1 + 1 : Nat) = 2 from rfl, p2, show (2 : Int) ^ (64 - 8 * 2) = 281474976710656 from rfl]; clear p0 p1 p2 p3 p4 p5 p6 p7 p8; rcases hz with ⟨rfl, _⟩ | ⟨rfl, _⟩ <;> omega
  · rw [p2] at hv; rw [show (2 + 1 : Nat) = 3 from rfl, p3, show (2 : Int) ^ (64 - 8 * 3) = 1099511627776 from rfl]; clear p0 p1 p2 p3 p4 p5 p6 p7 p8; rcases hz with ⟨rfl, _⟩ | ⟨rfl, _⟩ <;> omega
  · rw [p3] at hv; rw [show (3 + 1 : Nat) = 4 from rfl, p4, show (2 : Int) ^ (64 - 8 * 4) = 4294967296 from rfl]; clear p0 p1 p2 p3 p4 p5 p6 p7 p8; rcases hz with ⟨rfl, _⟩ | ⟨rfl, _⟩ <;> omega
  · rw [p4] at hv; rw [show (4 + 1 : Nat) = 5 from rfl, p5, show (2 : Int) ^ (64 - 8 * 5) = 16777216 from rfl]; clear p0 p1 p2 p3 p4 p5 p6 p7 p8; rcases hz with ⟨rfl, _⟩ | ⟨rfl, _⟩ <;> omega
  · rw [p5] at hv; rw [show (5 + 1 : Nat) = 6 from rfl, p6, show (2 : Int) ^ (64 - 8 * 6) = 65536 from rfl]; clear p0 p1 p2 p3 p4 p5 p6 p7 p8; rcases hz with ⟨rfl, _⟩ | ⟨rfl, _⟩ <;> omega
  · rw [p6] at hv; rw [show (6 + 1 : Nat) = 7 from rfl, p7, show (2 : Int) ^ (64 - 8 * 7) = 256 from rfl]; clear p0 p1 p2 p3 p4 p5 p6 p7 p8; rcases hz with ⟨rfl, _⟩ | ⟨rfl, _⟩ <;> omega
  · rw [p7] at hv; rw [show (7 + 1 : Nat) = 8 from rfl, p8, show (2 : Int) ^ (64 - 8 * 8) = 1 from rfl]; clear p0 p1 p2 p3 p4 p5 p6 p7 p8; rcases hz with ⟨rfl, _⟩ | ⟨rfl, _⟩ <;> omega
end Go.Proofs.Yteiogfmfcmfpjaa.Rd
