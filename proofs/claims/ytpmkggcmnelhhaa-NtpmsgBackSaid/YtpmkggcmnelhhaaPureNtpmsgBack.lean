/- The law NtpmsgBack over numbers and lists. -/
import Derived.Test.YtpmkggcmnelhhaaQNtpmsgBack
import Derived.Test.YtpmkggcmnelhhaaPureDec19
import Derived.Test.YtpmkggcmnelhhaaPureSame19
namespace Go.Proofs.Ytpmkggcmnelhhaa.Pure
open Go.RowKit Go.Proofs.Ytpmkggcmnelhhaa.P Go.Proofs.YtpmkggcmnelhhaaW.PrintWords Go.Proofs.YtpmkggcmnelhhaaW.PrintLast Go.Proofs.YtpmkggcmnelhhaaW.PrintMore Go.Proofs.Ytpmkggcmnelhhaa.Rd

theorem NtpmsgBack : timesynclaw19_NtpmsgBack.Pure := by
  intro x l hx hl
  refine ⟨2100, ?_⟩
  obtain ⟨h0, h1, h2, h3, h4, h5, h6, h7, h8, h9, h10, h11, h12⟩ := hx
  simp [Lit.wf, IntKind.bits, IntKind.signed, IntKind.min, IntKind.max] at h6 h7 h8 h9 h10 h11 h12
  obtain ⟨-, -, hb⟩ := hl
  have hb' : bytesOk l := by
    intro y hy
    have := hb y hy
    simp [Lit.wf, IntKind.bits, IntKind.signed, IntKind.min, IntKind.max] at this
    omega
  unfold timesynclaw19_NtpmsgBack.f
  by_cases hlen : (l.length : Int) > 2000
  · rw [if_pos hlen, awake_more _ (by omega)]
    rfl
  rw [if_neg hlen]
  by_cases hv : valid19 x.f0 x.f1 x.f2 x.f3 x.f4 x.f5
  · rw [enc_ok 2100 (by omega) _ _ _ _ _ _ _ _ _ _ _ _ _ hv (by omega) (by omega) (by omega) (by omega) (by omega) (by omega) (by omega)]
    rw [check_spec, if_pos hv]
    have hd := dec_hdr hv (d1 := x.f6) (d2 := x.f7) (d3 := x.f8) (d4 := x.f9) (d5 := x.f10) (d6 := x.f11) (d7 := x.f12) (by omega) (by omega) (by omega) (by omega) (by omega) (by omega) (by omega) l hb' (by omega)
    have hln := hdr_length x.f0 x.f1 x.f2 x.f3 x.f4 x.f5 x.f6 x.f7 x.f8 x.f9 x.f10 x.f11 x.f12
    generalize hdr x.f0 x.f1 x.f2 x.f3 x.f4 x.f5 x.f6 x.f7 x.f8 x.f9 x.f10 x.f11 x.f12 = H at hd hln
    simp only [Option.bind_some, if_true, List.nil_append, List.length_nil, hln]
    rw [if_pos (by omega), if_pos (by omega), hd]
    simp only [Option.bind_some, if_true, beq_self_eq_true, Bool.and_self]
    rw [if_pos (by omega), same_self l (by omega) 2100 (by omega), awake_more _ (by omega)]
    rfl
  · unfold ntpmsg_Encode.f
    rw [check_spec, if_neg hv, awake_more _ (by omega)]
    rfl
end Go.Proofs.Ytpmkggcmnelhhaa.Pure
