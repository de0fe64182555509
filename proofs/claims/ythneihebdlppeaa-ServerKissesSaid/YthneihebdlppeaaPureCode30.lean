/- The number of a kiss code, both ways, and the code of the number. -/
import Derived.Test.YthneihebdlppeaaPureRep30
import Derived.Test.YthneihebdlppeaaPx19
import Derived.Test.YthneihebdlppeaaPx29
import Derived.Test.YthneihebdlppeaaPx31
namespace Go.Proofs.Ythneihebdlppeaa.P
open Go.RowKit Go.Proofs.YthneihebdlppeaaW.PrintWords Go.Proofs.YthneihebdlppeaaW.PrintLast Go.Proofs.YthneihebdlppeaaW.PrintMore

theorem or32 (a b : Nat) (ha : a < 2 ^ 24) (hb : b < 256) : Go.bits .or .u32 (((a : Int) * 256) % 4294967296) ((b : Int) % 4294967296) = ((a * 256 + b : Nat) : Int) := by
  have e : ∀ x y : Int, Go.bits .or .u32 x y = IntKind.u32.wrap ((BitVec.ofInt 32 x ||| BitVec.ofInt 32 y).toNat : Int) := fun _ _ => rfl
  have e1 : (a : Int) * 256 % 4294967296 = ((a * 256 : Nat) : Int) := by omega
  have e0 : (b : Int) % 4294967296 = b := by omega
  rw [e, e1, e0, BitVec.toNat_or, BitVec.toNat_ofInt, BitVec.toNat_ofInt]
  have e2 : (((a * 256 : Nat) : Int) % ((2 ^ 32 : Nat) : Int)).toNat = 2 ^ 8 * a := by omega
  have e3 : ((b : Int) % ((2 ^ 32 : Nat) : Int)).toNat = b := by omega
  rw [e2, e3, ← Nat.two_pow_add_eq_or_of_lt (by omega)]
  have : IntKind.u32.wrap ((2 ^ 8 * a + b : Nat) : Int) = ((2 ^ 8 * a + b : Nat) : Int) := by
    unfold IntKind.wrap
    simp [IntKind.bits, IntKind.signed]
    omega
  rw [this]
  omega
theorem four (s : ByteArray) (h : s.size = 4) : ∃ a b c d : UInt8, s = ⟨#[a, b, c, d]⟩ := by
  obtain ⟨⟨l⟩⟩ := s
  match l, h with
  | [a, b, c, d], _ => exact ⟨a, b, c, d, rfl⟩
def letter (n : Nat) : Prop := 65 ≤ n ∧ n ≤ 90
instance (n : Nat) : Decidable (letter n) := by unfold letter; infer_instance
theorem code_four (a b c d : UInt8) (k : Nat) (hk : 8 ≤ k) :
    ∃ r, ntpmsg_Code.f k ⟨#[a, b, c, d]⟩ = some r ∧ timesyncref19_Code.f k ⟨#[a, b, c, d]⟩ = some r ∧
      r = if letter a.toNat ∧ letter b.toNat ∧ letter c.toNat ∧ letter d.toNat then (((((a.toNat * 256 + b.toNat) * 256 + c.toNat) * 256 + d.toNat : Nat) : Int), 0) else (0, 19) := by
  have ha := a.toNat_lt
  have hb := b.toNat_lt
  have hc := c.toNat_lt
  have hd := d.toNat_lt
  obtain ⟨k, rfl⟩ : ∃ k', k = k' + 5 := ⟨k - 5, by omega⟩
  have b0 : bt ⟨#[a, b, c, d]⟩ 0 = (a.toNat : Int) := rfl
  have b1 : bt ⟨#[a, b, c, d]⟩ 1 = (b.toNat : Int) := rfl
  have b2 : bt ⟨#[a, b, c, d]⟩ 2 = (c.toNat : Int) := rfl
  have b3 : bt ⟨#[a, b, c, d]⟩ 3 = (d.toNat : Int) := rfl
  have hs : ((⟨#[a, b, c, d]⟩ : ByteArray).size : Int) = 4 := rfl
  have w0 : wrap64 (0 + 1) = 1 := by unfold wrap64; omega
  have w1 : wrap64 (1 + 1) = 2 := by unfold wrap64; omega
  have w2 : wrap64 (2 + 1) = 3 := by unfold wrap64; omega
  have w3 : wrap64 (3 + 1) = 4 := by unfold wrap64; omega
  generalize (⟨#[a, b, c, d]⟩ : ByteArray) = x at *
  generalize a.toNat = A at *
  generalize b.toNat = B at *
  generalize c.toNat = C at *
  generalize d.toNat = D at *
  have o0 : Go.bits .or .u32 ((0 : Int) * 256 % 4294967296) ((A : Int) % 4294967296) = (A : Int) := by
    have h := or32 0 A (by omega) (by omega)
    rw [show ((0 : Nat) : Int) = 0 from rfl] at h
    rw [h]; omega
  have o1 := or32 A B (by omega) (by omega)
  have o2 := or32 (A * 256 + B) C (by omega) (by omega)
  have o3 := or32 ((A * 256 + B) * 256 + C) D (by omega) (by omega)
  have r0 : ((0 : Int) * 256 % 4294967296 + (A : Int) % 4294967296) % 4294967296 = (A : Int) := by omega
  have r1 : ((A : Int) * 256 % 4294967296 + (B : Int) % 4294967296) % 4294967296 = ((A * 256 + B : Nat) : Int) := by omega
  have r2 : (((A * 256 + B : Nat) : Int) * 256 % 4294967296 + (C : Int) % 4294967296) % 4294967296 = (((A * 256 + B) * 256 + C : Nat) : Int) := by omega
  have r3 : ((((A * 256 + B) * 256 + C : Nat) : Int) * 256 % 4294967296 + (D : Int) % 4294967296) % 4294967296 = ((((A * 256 + B) * 256 + C) * 256 + D : Nat) : Int) := by
    have e1 : (((A * 256 + B) * 256 + C : Nat) : Int) * 256 % 4294967296 = (((A * 256 + B) * 256 + C : Nat) : Int) * 256 := Int.emod_eq_of_lt (by omega) (by omega)
    have e2 : (D : Int) % 4294967296 = D := Int.emod_eq_of_lt (by omega) (by omega)
    rw [e1, e2, Int.emod_eq_of_lt (by omega) (by omega)]
    omega
  refine ⟨_, ?_, ?_, rfl⟩
  · simp only [ntpmsg_Code.f, ntpmsg_Code.l0, hs, b0, b1, b2, b3, w0, w1, w2, w3, o0, o1, o2, o3, Int.reduceLT, Int.reduceLE, ↓reduceIte]
    unfold letter
    repeat' split
    all_goals first | rfl | (exfalso; omega)
  · simp only [timesyncref19_Code.f, timesyncref19_Code.l0, hs, b0, b1, b2, b3, w0, w1, w2, w3, r0, r1, r2, r3, Int.reduceLT, Int.reduceLE, ↓reduceIte]
    unfold letter
    repeat' split
    all_goals first | rfl | (exfalso; omega)
/-- Both Codes answer alike: a number of letters, or the error. -/
theorem code_all (s : ByteArray) (k : Nat) (hk : 8 ≤ k) : ∃ r, ntpmsg_Code.f k s = some r ∧ timesyncref19_Code.f k s = some r ∧
    (r = (0, 19) ∨ ∃ a b c d : UInt8, s = ⟨#[a, b, c, d]⟩ ∧ (letter a.toNat ∧ letter b.toNat ∧ letter c.toNat ∧ letter d.toNat) ∧ r = (((((a.toNat * 256 + b.toNat) * 256 + c.toNat) * 256 + d.toNat : Nat) : Int), 0)) := by
  by_cases h : s.size = 4
  · obtain ⟨a, b, c, d, rfl⟩ := four s h
    obtain ⟨r, h1, h2, h3⟩ := code_four a b c d k hk
    refine ⟨r, h1, h2, ?_⟩
    by_cases hl : letter a.toNat ∧ letter b.toNat ∧ letter c.toNat ∧ letter d.toNat
    · rw [if_pos hl] at h3
      exact .inr ⟨a, b, c, d, rfl, hl, h3⟩
    · rw [if_neg hl] at h3
      exact .inl h3
  · refine ⟨(0, 19), ?_, ?_, .inl rfl⟩
    · unfold ntpmsg_Code.f
      rw [if_neg (by omega)]
    · unfold timesyncref19_Code.f
      rw [if_neg (by omega)]
end Go.Proofs.Ythneihebdlppeaa.P
