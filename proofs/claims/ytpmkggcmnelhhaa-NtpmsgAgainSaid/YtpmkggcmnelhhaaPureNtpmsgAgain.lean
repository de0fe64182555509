/- The law NtpmsgAgain over numbers and lists. -/
import Derived.Test.YtpmkggcmnelhhaaPx22
import Derived.Test.YtpmkggcmnelhhaaPureRef19
import Derived.Test.YtpmkggcmnelhhaaPureSame19
namespace Go.Proofs.Ytpmkggcmnelhhaa.Pure
open Go.RowKit Go.Proofs.Ytpmkggcmnelhhaa.P Go.Proofs.YtpmkggcmnelhhaaW.PrintWords Go.Proofs.YtpmkggcmnelhhaaW.PrintLast Go.Proofs.YtpmkggcmnelhhaaW.PrintMore Go.Proofs.Ytpmkggcmnelhhaa.Rd

theorem cut_back (l : List Int) (hb : bytesOk l) (a s : Nat) (h : a + s ≤ l.length) : be (val ((l.drop a).take s) s) s = (l.drop a).take s :=
  be_val (bytesOk_take (bytesOk_drop hb a) s) s (by rw [List.length_take, List.length_drop]; omega)
theorem cut_range (l : List Int) (hb : bytesOk l) (a s : Nat) : 0 ≤ val ((l.drop a).take s) s ∧ val ((l.drop a).take s) s < 2 ^ (8 * s) := val_range (bytesOk_take (bytesOk_drop hb a) s) s
/-- The bytes of what was decoded. -/
theorem hdr_back (l : List Int) (hb : bytesOk l) (hl : 48 ≤ l.length) : hdr (rd l 0 / 64) (rd l 0 / 8 % 8) (rd l 0 % 8) (rd l 1) (upDown (rd l 2) 1) (upDown (rd l 3) 1)
    (val ((l.drop 4).take 4) 4) (val ((l.drop 8).take 4) 4) (val ((l.drop 12).take 4) 4) (val ((l.drop 16).take 8) 8) (val ((l.drop 24).take 8) 8) (val ((l.drop 32).take 8) 8) (val ((l.drop 40).take 8) 8) = l.take 48 := by
  have b0 : 0 ≤ rd l 0 ∧ rd l 0 ≤ 255 := rd_byte hb 0
  have b2 : 0 ≤ rd l 2 ∧ rd l 2 ≤ 255 := rd_byte hb 2
  have b3 : 0 ≤ rd l 3 ∧ rd l 3 ≤ 255 := rd_byte hb 3
  unfold hdr
  rw [cut_back l hb 4 4 (by omega), cut_back l hb 8 4 (by omega), cut_back l hb 12 4 (by omega), cut_back l hb 16 8 (by omega), cut_back l hb 24 8 (by omega), cut_back l hb 32 8 (by omega), cut_back l hb 40 8 (by omega)]
  have u2 : upDown (rd l 2) 1 % 256 = rd l 2 := by rw [up_byte _ b2.1 b2.2]; split <;> omega
  have u3 : upDown (rd l 3) 1 % 256 = rd l 3 := by rw [up_byte _ b3.1 b3.2]; split <;> omega
  have u0 : rd l 0 / 64 * 64 + rd l 0 / 8 % 8 * 8 + rd l 0 % 8 = rd l 0 := by omega
  rw [u0, u2, u3]
  have t4 : [rd l 0, rd l 1, rd l 2, rd l 3] = l.take 4 := by
    have e0 := one_cut l 0 (by omega)
    have e1 := one_cut l 1 (by omega)
    have e2 := one_cut l 2 (by omega)
    have e3 := one_cut l 3 (by omega)
    have f1 := take_add l 1 1
    have f2 := take_add l 2 1
    have f3 := take_add l 3 1
    rw [List.drop_zero] at e0
    rw [e1, e0] at f1
    rw [e2, ← f1] at f2
    rw [e3, ← f2] at f3
    exact f3
  rw [t4, take_add, take_add, take_add, take_add, take_add, take_add, take_add]
theorem NtpmsgAgain : timesynclaw19_NtpmsgAgain.Pure := by
  intro l hl _ hbw
  refine ⟨2100, ?_⟩
  have hb : bytesOk l := by
    intro y hy
    have := hbw y hy
    simp [Lit.wf, IntKind.bits, IntKind.signed, IntKind.min, IntKind.max] at this
    omega
  unfold timesynclaw19_NtpmsgAgain.f
  by_cases hlen : (l.length : Int) > 2000
  · rw [if_pos hlen, awake_more _ (by omega)]
    rfl
  rw [if_neg hlen]
  unfold ntpmsg_Decode.f
  by_cases h48 : l.length < 48
  · rw [if_pos h48, awake_more _ (by omega)]
    simp; omega
  rw [if_neg h48, if_pos (show l.length ≤ 140737488355000 ∧ bytesOk l from ⟨by omega, hb⟩)]
  have b0 : 0 ≤ rd l 0 ∧ rd l 0 ≤ 255 := rd_byte hb 0
  have b1 : 0 ≤ rd l 1 ∧ rd l 1 ≤ 255 := rd_byte hb 1
  have b2 : 0 ≤ rd l 2 ∧ rd l 2 ≤ 255 := rd_byte hb 2
  have b3 : 0 ≤ rd l 3 ∧ rd l 3 ≤ 255 := rd_byte hb 3
  have t0 : l.take 1 = [rd l 0] := by have := one_cut l 0 (by omega); simpa using this
  have t1 : l.tail.take 1 = [rd l 1] := by have := one_cut l 1 (by omega); rw [List.drop_one] at this; exact this
  have t2 : (l.drop 2).take 1 = [rd l 2] := one_cut l 2 (by omega)
  have t3 : (l.drop 3).take 1 = [rd l 3] := one_cut l 3 (by omega)
  rw [t0, t1, t2, t3, acc_one _ b0.1 b0.2, acc_one _ b1.1 b1.2, acc_one _ b2.1 b2.2, acc_one _ b3.1 b3.2, w_byte _ b0.1 b0.2, w_byte _ b1.1 b1.2, and_seven (rd l 0 / 8) (by omega) (by omega), and_seven (rd l 0) b0.1 b0.2]
  by_cases hV : rd l 0 / 8 % 8 = 0 ∨ 4 < rd l 0 / 8 % 8
  · rw [if_pos hV, awake_more _ (by omega)]
    simp; omega
  rw [if_neg hV]
  rw [acc_val (bytesOk_take (bytesOk_drop hb 4) 4) 4 (by omega), acc_val (bytesOk_take (bytesOk_drop hb 8) 4) 4 (by omega), acc_val (bytesOk_take (bytesOk_drop hb 12) 4) 4 (by omega), acc_val (bytesOk_take (bytesOk_drop hb 16) 8) 8 (by omega), acc_val (bytesOk_take (bytesOk_drop hb 24) 8) 8 (by omega), acc_val (bytesOk_take (bytesOk_drop hb 32) 8) 8 (by omega), acc_val (bytesOk_take (bytesOk_drop hb 40) 8) 8 (by omega)]
  have hbk := hdr_back l hb (by omega)
  have r1 := cut_range l hb 4 4
  have r2 := cut_range l hb 8 4
  have r3 := cut_range l hb 12 4
  have r4 := cut_range l hb 16 8
  have r5 := cut_range l hb 24 8
  have r6 := cut_range l hb 32 8
  have r7 := cut_range l hb 40 8
  generalize val ((l.drop 4).take 4) 4 = d1 at r1 hbk ⊢
  generalize val ((l.drop 8).take 4) 4 = d2 at r2 hbk ⊢
  generalize val ((l.drop 12).take 4) 4 = d3 at r3 hbk ⊢
  generalize val ((l.drop 16).take 8) 8 = d4 at r4 hbk ⊢
  generalize val ((l.drop 24).take 8) 8 = d5 at r5 hbk ⊢
  generalize val ((l.drop 32).take 8) 8 = d6 at r6 hbk ⊢
  generalize val ((l.drop 40).take 8) 8 = d7 at r7 hbk ⊢
  have m1 : d1 % 4294967296 = d1 := Int.emod_eq_of_lt r1.1 r1.2
  have m2 : d2 % 4294967296 = d2 := Int.emod_eq_of_lt r2.1 r2.2
  have m3 : d3 % 4294967296 = d3 := Int.emod_eq_of_lt r3.1 r3.2
  rw [m1, m2, m3]
  have hv : valid19 (rd l 0 / 64) (rd l 0 / 8 % 8) (rd l 0 % 8) (rd l 1) (upDown (rd l 2) 1) (upDown (rd l 3) 1) := by
    unfold valid19
    have u2 := up_byte (rd l 2) b2.1 b2.2
    have u3 := up_byte (rd l 3) b3.1 b3.2
    split at u2 <;> split at u3 <;> omega
  have hE := enc_ok 2100 (by omega) _ _ _ _ _ _ d1 d2 d3 d4 d5 d6 d7 hv r1 r2 r3 r4 r5 r6 r7
  rw [hbk] at hE
  simp only [Option.bind_some, if_true]
  rw [hE]
  simp only [Option.bind_some]
  rw [if_pos (by omega), if_pos (by omega), same_self _ (by rw [List.length_take]; omega) 2100 (by rw [List.length_take]; omega)]
  simp only [Option.bind_some, if_true]
  rw [same_self _ (by rw [List.length_drop]; omega) 2100 (by rw [List.length_drop]; omega), check_spec, if_pos hv, awake_more _ (by omega)]
  rfl
end Go.Proofs.Ytpmkggcmnelhhaa.Pure
