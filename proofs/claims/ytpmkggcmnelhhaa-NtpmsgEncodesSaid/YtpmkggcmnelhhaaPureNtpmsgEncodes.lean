/- The law NtpmsgEncodes over numbers and lists. -/
import Derived.Test.YtpmkggcmnelhhaaQNtpmsgEncodes
import Derived.Test.YtpmkggcmnelhhaaPureN19
import Derived.Test.YtpmkggcmnelhhaaPureAwk19
namespace Go.Proofs.Ytpmkggcmnelhhaa.Pure
open Go.RowKit Go.Proofs.Ytpmkggcmnelhhaa.P Go.Proofs.YtpmkggcmnelhhaaW.PrintWords Go.Proofs.YtpmkggcmnelhhaaW.PrintLast Go.Proofs.YtpmkggcmnelhhaaW.PrintMore

theorem same_l0 (l : List Int) (hl : l.length ≤ 140737488355328) : ∀ (d i k : Nat), l.length = i + d → d < k → timesynclaw19_same.l0 k l l i = some true := by
  intro d
  induction d with
  | zero =>
    intro i k hi hk
    obtain ⟨k, rfl⟩ : ∃ k', k = k' + 1 := ⟨k - 1, by omega⟩
    rw [timesynclaw19_same.l0, if_neg (by omega)]
  | succ d ih =>
    intro i k hi hk
    obtain ⟨k, rfl⟩ : ∃ k', k = k' + 1 := ⟨k - 1, by omega⟩
    have e2 : wrap64 ((i : Int) + 1) = ((i + 1 : Nat) : Int) := by unfold wrap64; omega
    rw [timesynclaw19_same.l0, if_pos (by omega), if_pos (by omega), if_pos (by omega), if_pos rfl, e2]
    exact ih (i + 1) k (by omega) (by omega)
theorem same_self (l : List Int) (hl : l.length ≤ 140737488355328) (k : Nat) (hk : l.length < k) : timesynclaw19_same.f k l l = some true := by
  unfold timesynclaw19_same.f
  rw [if_pos rfl]
  exact same_l0 l hl l.length 0 k (by omega) hk
theorem hdr_length (L V M S P C d1 d2 d3 d4 d5 d6 d7 : Int) : (hdr L V M S P C d1 d2 d3 d4 d5 d6 d7).length = 48 := by
  simp [hdr, be_length]
theorem NtpmsgEncodes : timesynclaw19_NtpmsgEncodes.Pure := by
  intro x hx
  refine ⟨60, ?_⟩
  obtain ⟨h0, h1, h2, h3, h4, h5, h6, h7, h8, h9, h10, h11, h12⟩ := hx
  simp [Lit.wf, IntKind.bits, IntKind.signed, IntKind.min, IntKind.max] at h6 h7 h8 h9 h10 h11 h12
  unfold timesynclaw19_NtpmsgEncodes.f
  by_cases hv : valid19 x.f0 x.f1 x.f2 x.f3 x.f4 x.f5
  · rw [enc_ok 60 (by omega) _ _ _ _ _ _ _ _ _ _ _ _ _ hv (by omega) (by omega) (by omega) (by omega) (by omega) (by omega) (by omega), refenc_ok 60 (by omega) _ _ _ _ _ _ _ _ _ _ _ _ _ hv (by omega) (by omega) (by omega)]
    rw [check_spec, refcheck_spec, if_pos hv]
    simp only [Option.bind_some, if_true]
    rw [same_self _ (by rw [hdr_length]; omega) 60 (by rw [hdr_length]; omega), awake_ok]
    rfl
  · unfold ntpmsg_Encode.f timesyncref19_Encode.f
    rw [check_spec, refcheck_spec, if_neg hv, awake_ok]
    rfl
end Go.Proofs.Ytpmkggcmnelhhaa.Pure
