/- The law ServerKisses over numbers and texts. -/
import Derived.Test.YthneihebdlppeaaQServerKisses
import Derived.Test.YthneihebdlppeaaPureCode30
namespace Go.Proofs.Ythneihebdlppeaa.Pure
open Go.RowKit Go.Proofs.Ythneihebdlppeaa.P Go.Proofs.YthneihebdlppeaaW.PrintWords Go.Proofs.YthneihebdlppeaaW.PrintLast Go.Proofs.YthneihebdlppeaaW.PrintMore

theorem put_four (V : Nat) (hV : V < 4294967296) (k : Nat) (hk : 3 ≤ k) : ntpmsg_put.f k [(⟨IntKind.u64.wrap (V : Int), 4⟩ : S76)] = some [((V / 16777216 % 256 : Nat) : Int), ((V / 65536 % 256 : Nat) : Int), ((V / 256 % 256 : Nat) : Int), ((V % 256 : Nat) : Int)] := by
  obtain ⟨k, rfl⟩ : ∃ k', k = k' + 3 := ⟨k - 3, by omega⟩
  have e1 : IntKind.u64.wrap (V : Int) = V := by rw [IntKind.wrap_u64]; omega
  have ea : wire_Append.f [] (V : Int) 4 = some ([((V / 16777216 % 256 : Nat) : Int), ((V / 65536 % 256 : Nat) : Int), ((V / 256 % 256 : Nat) : Int), ((V % 256 : Nat) : Int)], 0) := by
    unfold wire_Append.f
    rw [if_pos (by omega), if_pos ⟨by omega, by omega⟩, show (4 : Int).toNat = 4 from rfl, show (2 : Int) ^ (8 * 4) = 4294967296 from rfl, Int.ediv_eq_zero_of_lt (by omega) (by omega), if_neg (by omega), if_pos (by simp)]
    congr 2
    have d0 : digit (V : Int) 4 0 = ((V / 16777216 % 256 : Nat) : Int) := by unfold digit; rw [show (2 : Int) ^ (8 * (4 - 1 - 0)) = 16777216 from rfl]; omega
    have d1 : digit (V : Int) 4 1 = ((V / 65536 % 256 : Nat) : Int) := by unfold digit; rw [show (2 : Int) ^ (8 * (4 - 1 - 1)) = 65536 from rfl]; omega
    have d2 : digit (V : Int) 4 2 = ((V / 256 % 256 : Nat) : Int) := by unfold digit; rw [show (2 : Int) ^ (8 * (4 - 1 - 2)) = 256 from rfl]; omega
    have d3 : digit (V : Int) 4 3 = ((V % 256 : Nat) : Int) := by unfold digit; rw [show (2 : Int) ^ (8 * (4 - 1 - 3)) = 1 from rfl]; omega
    show [digit (V : Int) 4 0, digit (V : Int) 4 1, digit (V : Int) 4 2, digit (V : Int) 4 3] = _
    rw [d0, d1, d2, d3]
  have hr : rd_T76 [(⟨(V : Int), 4⟩ : S76)] 0 = ⟨(V : Int), 4⟩ := rfl
  have w0 : wrap64 (0 + 1) = 1 := by unfold wrap64; omega
  rw [e1]
  unfold ntpmsg_put.f
  rw [ntpmsg_put.l0, if_pos (by simp), if_pos (by omega), if_pos (by simp), hr]
  simp only [ea, Option.bind_some, w0]
  rw [ntpmsg_put.l0, if_neg (by simp)]
theorem kiss_some (L V M P d7 : Int) (I : Nat) (hI : I < 4294967296) (k : Nat) (hk : 20 ≤ k) (x y z u v w x' : Int) : ∃ q, ntpmsg_Kiss.f k L V M x P y z u I v w x' d7 = some q := by
  unfold ntpmsg_Kiss.f
  rw [put_four I hI k (by omega), Option.bind_some]
  obtain ⟨r, h1, _⟩ := code_all (strOfNums [((I / 16777216 % 256 : Nat) : Int), ((I / 65536 % 256 : Nat) : Int), ((I / 256 % 256 : Nat) : Int), ((I % 256 : Nat) : Int)]) k (by omega)
  rw [h1, Option.bind_some]
  split
  · split
    · exact ⟨_, rfl⟩
    · exact ⟨_, rfl⟩
  · exact ⟨_, rfl⟩
theorem kiss_code (L V M P d7 : Int) (a b c d : UInt8) (hl : letter a.toNat ∧ letter b.toNat ∧ letter c.toNat ∧ letter d.toNat) (k : Nat) (hk : 20 ≤ k) (y z u v w x' : Int) :
    ntpmsg_Kiss.f k L V M 0 P y z u ((((a.toNat * 256 + b.toNat) * 256 + c.toNat) * 256 + d.toNat : Nat) : Int) v w x' d7 = some (⟨#[a, b, c, d]⟩, true) := by
  have ha := a.toNat_lt
  have hb := b.toNat_lt
  have hc := c.toNat_lt
  have hd := d.toNat_lt
  unfold ntpmsg_Kiss.f
  rw [put_four _ (by omega) k (by omega), Option.bind_some]
  have e0 : (((a.toNat * 256 + b.toNat) * 256 + c.toNat) * 256 + d.toNat) / 16777216 % 256 = a.toNat := by omega
  have e1 : (((a.toNat * 256 + b.toNat) * 256 + c.toNat) * 256 + d.toNat) / 65536 % 256 = b.toNat := by omega
  have e2 : (((a.toNat * 256 + b.toNat) * 256 + c.toNat) * 256 + d.toNat) / 256 % 256 = c.toNat := by omega
  have e3 : (((a.toNat * 256 + b.toNat) * 256 + c.toNat) * 256 + d.toNat) % 256 = d.toNat := by omega
  rw [e0, e1, e2, e3]
  have es : strOfNums [((a.toNat : Nat) : Int), ((b.toNat : Nat) : Int), ((c.toNat : Nat) : Int), ((d.toNat : Nat) : Int)] = ⟨#[a, b, c, d]⟩ := by
    unfold strOfNums
    simp
  rw [es]
  obtain ⟨r, h1, _, h3⟩ := code_four a b c d k (by omega)
  rw [if_pos hl] at h3
  rw [h1, h3, Option.bind_some, if_pos rfl, if_pos rfl]
theorem kiss_both (L V M S P C d1 d2 d3 d4 d5 d6 d7 : Int) (t : ByteArray) (k : Nat) (hk : 20 ≤ k) :
    ∃ R, server_KissReply.f k L V M S P C d1 d2 d3 d4 d5 d6 d7 t = some R ∧ timesyncref30_KissReply.f k L V M S P C d1 d2 d3 d4 d5 d6 d7 t = some R ∧
      ((∃ e : Int, e ≠ 0 ∧ R = (0, 0, 0, 0, 0, 0, 0, 0, 0, 0, 0, 0, 0, e)) ∨ ∃ a b c d : UInt8, t = ⟨#[a, b, c, d]⟩ ∧ (letter a.toNat ∧ letter b.toNat ∧ letter c.toNat ∧ letter d.toNat) ∧ R = (3, V, 4, 0, P, 0, 0, 0, (((((a.toNat * 256 + b.toNat) * 256 + c.toNat) * 256 + d.toNat : Nat) : Int)), 0, d7, d7, d7, 0)) := by
  unfold server_KissReply.f timesyncref30_KissReply.f
  rw [reqcheck_ok, refcheck_spec, Option.bind_some, Option.bind_some]
  obtain ⟨r, c1, c2, c3⟩ := code_all t k (by omega)
  by_cases hv : valid19 L V M S P C
  · rw [if_pos hv, if_pos hv, if_pos rfl]
    by_cases hm : M = 3
    · rw [if_pos hm, if_pos hm, if_pos rfl, c1, c2, Option.bind_some]
      rcases c3 with rfl | ⟨a, b, c, d, ht, hl, rfl⟩
      · exact ⟨_, rfl, rfl, .inl ⟨19, by omega, rfl⟩⟩
      · exact ⟨_, rfl, rfl, .inr ⟨a, b, c, d, ht, hl, rfl⟩⟩
    · rw [if_neg hm, if_neg hm, if_neg (by omega)]
      exact ⟨_, rfl, rfl, .inl ⟨8, by omega, rfl⟩⟩
  · rw [if_neg hv, if_neg hv, if_neg (by omega), if_neg (by omega)]
    exact ⟨_, rfl, rfl, .inl ⟨2, by omega, rfl⟩⟩
theorem ServerKisses : timesynclaw30_ServerKisses.Pure := by
  intro x t _ _
  refine ⟨201, ?_⟩
  unfold timesynclaw30_ServerKisses.f
  obtain ⟨R, h1, h2, h3⟩ := kiss_both x.f0 x.f1 x.f2 x.f3 x.f4 x.f5 x.f6 x.f7 x.f8 x.f9 x.f10 x.f11 x.f12 t 201 (by omega)
  rw [h1, h2]
  simp only [Option.bind_some, beq_self_eq_true, Bool.not_true, Bool.or_self, Bool.false_eq_true, if_false, bne_self_eq_false]
  rcases h3 with ⟨e, he, rfl⟩ | ⟨a, b, c, d, rfl, hl, rfl⟩
  · rw [timesynclaw30_ServerKisses.j0, if_neg (by simp)]
    obtain ⟨q, hq⟩ := kiss_some 0 0 0 0 0 0 (by omega) 200 (by omega) 0 0 0 0 0 0 0
    have hq' : ntpmsg_Kiss.f 200 0 0 0 0 0 0 0 0 0 0 0 0 0 = some q := hq
    simp only [hq', Option.bind_some]
    rw [if_neg he, awake_more 200 (by omega)]
    rfl
  · rw [timesynclaw30_ServerKisses.j0, if_neg (by simp)]
    have hq := kiss_code 3 x.f1 4 x.f4 x.f12 a b c d hl 200 (by omega) 0 0 0 0 x.f12 x.f12
    simp only [hq, Option.bind_some, if_true]
    unfold ntpmsg_Synced.f
    rw [if_pos rfl, awake_more 200 (by omega)]
    rfl
end Go.Proofs.Ythneihebdlppeaa.Pure
