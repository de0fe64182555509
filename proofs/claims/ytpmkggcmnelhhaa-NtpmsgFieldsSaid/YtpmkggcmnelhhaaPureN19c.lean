/- The bytes of a valid header, both ways. -/
import Derived.Test.YtpmkggcmnelhhaaPureN19b
namespace Go.Proofs.Ytpmkggcmnelhhaa.P
open Go.RowKit Go.Proofs.YtpmkggcmnelhhaaW.PrintWords Go.Proofs.YtpmkggcmnelhhaaW.PrintLast Go.Proofs.YtpmkggcmnelhhaaW.PrintMore

/-- The bytes of a header. -/
def hdr (L V M S P C : Int) (d1 d2 d3 d4 d5 d6 d7 : Int) : List Int :=
  [L * 64 + V * 8 + M, S, P % 256, C % 256] ++ be d1 4 ++ be d2 4 ++ be d3 4 ++ be d4 8 ++ be d5 8 ++ be d6 8 ++ be d7 8
theorem be_one (n : Int) : be n 1 = [n % 256] := by simp [be, digit]
theorem enc_ok (k : Nat) (hk : 20 < k) (L V M S P C d1 d2 d3 d4 d5 d6 d7 : Int) (hv : valid19 L V M S P C) (h1 : 0 ≤ d1 ∧ d1 < 2 ^ 32) (h2 : 0 ≤ d2 ∧ d2 < 2 ^ 32) (h3 : 0 ≤ d3 ∧ d3 < 2 ^ 32)
    (h4 : 0 ≤ d4 ∧ d4 < 2 ^ 64) (h5 : 0 ≤ d5 ∧ d5 < 2 ^ 64) (h6 : 0 ≤ d6 ∧ d6 < 2 ^ 64) (h7 : 0 ≤ d7 ∧ d7 < 2 ^ 64) :
    ntpmsg_Encode.f k L V M S P C d1 d2 d3 d4 d5 d6 d7 = some (hdr L V M S P C d1 d2 d3 d4 d5 d6 d7, 0) := by
  unfold ntpmsg_Encode.f
  rw [check_spec, if_pos hv, Option.bind_some, if_pos rfl]
  unfold valid19 at hv
  obtain ⟨l, rfl⟩ := Int.eq_ofNat_of_zero_le (show 0 ≤ L by omega)
  obtain ⟨v, rfl⟩ := Int.eq_ofNat_of_zero_le (show 0 ≤ V by omega)
  obtain ⟨m, rfl⟩ := Int.eq_ofNat_of_zero_le (show 0 ≤ M by omega)
  rw [first_or l v m (by omega) (by omega) (by omega)]
  have w1 : ∀ d : Int, 0 ≤ d ∧ d < 2 ^ 32 → IntKind.u64.wrap d = d := fun d h => by rw [IntKind.wrap_u64]; omega
  have wf : IntKind.u64.wrap ((l : Int) * 64 + v * 8 + m) = l * 64 + v * 8 + m := by rw [IntKind.wrap_u64]; omega
  have ws : IntKind.u64.wrap S = S := by rw [IntKind.wrap_u64]; omega
  rw [wf, ws, w1 d1 h1, w1 d2 h2, w1 d3 h3]
  unfold ntpmsg_put.f
  rw [show (0 : Int) = ((0 : Nat) : Int) from rfl, put_l0 _ ?_ (by simp) 11 0 k [] (by simp) (by omega) (by simp)]
  · simp only [Option.bind_some, List.drop_zero, List.nil_append]
    congr 2
    unfold fieldsOf hdr
    simp only [List.map_cons, List.map_nil, List.flatten_cons, List.flatten_nil, List.append_nil, show (1 : Int).toNat = 1 from rfl, show (4 : Int).toNat = 4 from rfl, show (8 : Int).toNat = 8 from rfl, be_one]
    have e1 : ((l : Int) * 64 + v * 8 + m) % 256 = l * 64 + v * 8 + m := by omega
    have e2 : S % 256 = S := by omega
    have e3 : P % 256 % 256 = P % 256 := by omega
    have e4 : C % 256 % 256 = C % 256 := by omega
    rw [e1, e2, e3, e4]
    simp only [List.cons_append, List.nil_append, List.append_assoc]
  · intro f hf
    simp only [List.mem_cons, List.not_mem_nil, or_false] at hf
    rcases hf with rfl | rfl | rfl | rfl | rfl | rfl | rfl | rfl | rfl | rfl | rfl
    all_goals
      refine ⟨?_, ?_, ?_, ?_⟩
      all_goals dsimp only
      all_goals first | omega | (show _ < (2 : Int) ^ 8; omega) | (show _ < (2 : Int) ^ 32; omega) | (show _ < (2 : Int) ^ 64; omega)
theorem refenc_ok (k : Nat) (hk : 20 < k) (L V M S P C d1 d2 d3 d4 d5 d6 d7 : Int) (hv : valid19 L V M S P C) (h1 : 0 ≤ d1 ∧ d1 < 2 ^ 32) (h2 : 0 ≤ d2 ∧ d2 < 2 ^ 32) (h3 : 0 ≤ d3 ∧ d3 < 2 ^ 32) :
    timesyncref19_Encode.f k L V M S P C d1 d2 d3 d4 d5 d6 d7 = some (hdr L V M S P C d1 d2 d3 d4 d5 d6 d7, 0) := by
  unfold timesyncref19_Encode.f
  rw [refcheck_spec, if_pos hv, Option.bind_some, if_pos rfl]
  unfold valid19 at hv
  have w1 : ∀ d : Int, 0 ≤ d ∧ d < 2 ^ 32 → IntKind.u64.wrap d = d := fun d h => by rw [IntKind.wrap_u64]; omega
  have wf : wrap64 (wrap64 (wrap64 (L * 64) + wrap64 (V * 8)) + M) % 256 = L * 64 + V * 8 + M := by unfold wrap64; omega
  rw [w1 d1 h1, w1 d2 h2, w1 d3 h3, wf, and_255 P (by omega) (by omega), and_255 C (by omega) (by omega), show S % 256 = S by omega]
  rw [show (4 : Int) = ((4 : Nat) : Int) from rfl, show (8 : Int) = ((8 : Nat) : Int) from rfl]
  rw [refput _ 4 k _ (by omega) (by omega) (by simp), Option.bind_some, refput _ 4 k _ (by omega) (by omega) (by simp [be_length]), Option.bind_some, refput _ 4 k _ (by omega) (by omega) (by simp [be_length]), Option.bind_some,
    refput _ 8 k _ (by omega) (by omega) (by simp [be_length]), Option.bind_some, refput _ 8 k _ (by omega) (by omega) (by simp [be_length]), Option.bind_some, refput _ 8 k _ (by omega) (by omega) (by simp [be_length]), Option.bind_some, refput _ 8 k _ (by omega) (by omega) (by simp [be_length]), Option.bind_some]
  rfl
end Go.Proofs.Ytpmkggcmnelhhaa.P
