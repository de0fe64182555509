/- The law ServerRoots over numbers. -/
import Derived.Test.YthneihebdlppeaaPx27
import Derived.Test.YthneihebdlppeaaPureRep30
namespace Go.Proofs.Ythneihebdlppeaa.Pure
open Go.RowKit Go.Proofs.Ythneihebdlppeaa.P Go.Proofs.YthneihebdlppeaaW.PrintWords Go.Proofs.YthneihebdlppeaaW.PrintLast Go.Proofs.YthneihebdlppeaaW.PrintMore

theorem long_short (d : Int) (h0 : 0 ≤ d) (h1 : d ≤ 281474976710655) (hs : shortV d ≤ 4294967295) : ∃ t, stamp_Long.f (shortV d) = some t ∧ d ≤ t ∧ t ≤ d + 15259 := by
  have hv : 0 ≤ shortV d := by unfold shortV; omega
  refine ⟨(shortV d * 1000000000 + 65535) / 65536, ?_, ?_, ?_⟩
  · unfold stamp_Long.f
    have a1 : wrap64 (shortV d) = shortV d := by unfold wrap64; omega
    have a2 : wrap64 (shortV d * 1000000000) = shortV d * 1000000000 := by unfold wrap64; omega
    have a3 : wrap64 (shortV d * 1000000000 + 65536) = shortV d * 1000000000 + 65536 := by unfold wrap64; omega
    have a4 : wrap64 (shortV d * 1000000000 + 65536 - 1) = shortV d * 1000000000 + 65535 := by unfold wrap64; omega
    rw [a1, a2, a3, a4]
  · unfold shortV; omega
  · unfold shortV; omega
theorem ServerRoots : timesynclaw30_ServerRoots.Pure := by
  intro a0 a1 a2 a3 h0 h1 h2 h3
  refine ⟨101, ?_⟩
  simp [Lit.wf, IntKind.bits, IntKind.signed, IntKind.min, IntKind.max] at h0 h1 h2 h3
  unfold timesynclaw30_ServerRoots.f
  have e0 : wrap64 ((Int.tmod (wrap64 a0) 16) + 1) = a0 % 16 + 1 := by
    have b1 : wrap64 a0 = a0 := by unfold wrap64; omega
    rw [b1, Int.tmod_eq_emod_of_nonneg (by omega)]
    unfold wrap64; omega
  have e1 : wrap64 (a1 / 65536) = a1 / 65536 := by unfold wrap64; omega
  have e2 : wrap64 (a2 / 65536) = a2 / 65536 := by unfold wrap64; omega
  rw [e0, e1, e2]
  have hd : 0 ≤ a1 / 65536 ∧ a1 / 65536 ≤ 281474976710655 := by omega
  have hp : 0 ≤ a2 / 65536 ∧ a2 / 65536 ≤ 281474976710655 := by omega
  have hs : 1 ≤ a0 % 16 + 1 ∧ a0 % 16 + 1 ≤ 16 := by omega
  generalize a1 / 65536 = d at hd ⊢
  generalize a2 / 65536 = p at hp ⊢
  generalize a0 % 16 + 1 = s at hs ⊢
  have hv : decide (valid19 0 4 3 0 0 0) = true := by decide
  have hr : rootOk s d p := by unfold rootOk; omega
  rw [reply_ok 100, hv, Option.bind_some]
  have hR : replyV 4 3 0 0 0 0 0 s d p a3 0 0 true = (if (fieldsV s d p).2.2 = 0 then
      if s = 16 then (3, 4, 4, 0, 0, 0, (fieldsV s d p).1, (fieldsV s d p).2.1, a3, 0, 0, 0, 0, 0)
      else (0, 4, 4, s, 0, 0, (fieldsV s d p).1, (fieldsV s d p).2.1, a3, 0, 0, 0, 0, 0)
    else (0, 0, 0, 0, 0, 0, 0, 0, 0, 0, 0, 0, 0, (fieldsV s d p).2.2)) := by
    unfold replyV
    rw [if_neg (by simp [hr]), if_pos rfl]
  rw [hR, fields_ok]
  have hF : fieldsV s d p = if (shortR d).2 = 0 ∧ (shortR p).2 = 0 then ((shortR d).1, (shortR p).1, 0) else (0, 0, 3) := by
    unfold fieldsV
    rw [if_pos hr]
  by_cases hok : (shortR d).2 = 0 ∧ (shortR p).2 = 0
  · rw [if_pos hok] at hF
    have hsd : shortV d ≤ 4294967295 ∧ (shortR d).1 = shortV d := by
      have h := hok.1
      have hn : 0 ≤ shortV d := by unfold shortV; omega
      unfold shortR at h ⊢
      split at h
      · cases h
      · rename_i hq
        rw [if_neg hq]
        exact ⟨by omega, Int.emod_eq_of_lt hn (by omega)⟩
    have hsp : shortV p ≤ 4294967295 ∧ (shortR p).1 = shortV p := by
      have h := hok.2
      have hn : 0 ≤ shortV p := by unfold shortV; omega
      unfold shortR at h ⊢
      split at h
      · cases h
      · rename_i hq
        rw [if_neg hq]
        exact ⟨by omega, Int.emod_eq_of_lt hn (by omega)⟩
    obtain ⟨t, t1, t2, t3⟩ := long_short d hd.1 hd.2 hsd.1
    obtain ⟨u, u1, u2, u3⟩ := long_short p hp.1 hp.2 hsp.1
    have w1 : wrap64 (t - d) = t - d := by unfold wrap64; omega
    have w2 : wrap64 (u - p) = u - p := by unfold wrap64; omega
    rw [hF, hsd.2, hsp.2]
    rw [if_pos rfl]
    by_cases h16 : s = 16
    · rw [if_pos h16]
      simp only [if_true, t1, u1, Option.bind_some, w1, w2]
      rw [if_pos (by omega), if_pos (by omega), if_pos (by omega), if_pos (by omega), awake_more 101 (by omega)]
      rfl
    · rw [if_neg h16]
      simp only [if_true, t1, u1, Option.bind_some, w1, w2]
      rw [if_pos (by omega), if_pos (by omega), if_pos (by omega), if_pos (by omega), awake_more 101 (by omega)]
      rfl
  · rw [if_neg hok] at hF
    rw [hF, awake_more 101 (by omega)]
    simp
end Go.Proofs.Ythneihebdlppeaa.Pure
