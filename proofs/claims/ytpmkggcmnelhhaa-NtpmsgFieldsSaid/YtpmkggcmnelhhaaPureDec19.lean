/- Decode of a valid header's bytes. -/
import Derived.Test.YtpmkggcmnelhhaaPureAcc
namespace Go.Proofs.Ytpmkggcmnelhhaa.P
open Go.RowKit Go.Proofs.YtpmkggcmnelhhaaW.PrintWords Go.Proofs.YtpmkggcmnelhhaaW.PrintLast Go.Proofs.YtpmkggcmnelhhaaW.PrintMore Go.Proofs.Ytpmkggcmnelhhaa.Rd

theorem acc_one (x : Int) (h0 : 0 ≤ x) (h1 : x ≤ 255) : acc [x] 1 = x := by
  have hb : bytesOk [x] := by intro y hy; rw [List.mem_singleton] at hy; subst hy; exact ⟨h0, h1⟩
  rw [acc_val hb 1 (by omega)]
  simp [val, rd]
theorem up_one (P : Int) (h0 : -128 ≤ P) (h1 : P ≤ 127) : upDown (P % 256) 1 = P := by
  unfold upDown
  rw [IntKind.wrap_u64, show (2 : Int) ^ (64 - 8 * 1) = 72057594037927936 from rfl]
  unfold wrap64
  omega
theorem and_seven (x : Int) (h0 : 0 ≤ x) (h1 : x ≤ 255) : bits .and .i64 x 7 = x % 8 := by
  have h : ∀ n : Fin 256, Go.bits .and .i64 (n.val : Int) 7 = (n.val : Int) % 8 := by decide +kernel
  have := h ⟨x.toNat, by omega⟩
  dsimp only at this
  rw [show ((x.toNat : Nat) : Int) = x by omega] at this
  exact this
theorem hdr_length (L V M S P C d1 d2 d3 d4 d5 d6 d7 : Int) : (hdr L V M S P C d1 d2 d3 d4 d5 d6 d7).length = 48 := by
  simp [hdr, be_length]
theorem hdr_bytes {L V M S P C : Int} (hv : valid19 L V M S P C) (d1 d2 d3 d4 d5 d6 d7 : Int) : bytesOk (hdr L V M S P C d1 d2 d3 d4 d5 d6 d7) := by
  unfold valid19 at hv
  intro x hx
  unfold hdr at hx
  simp only [List.mem_append, List.mem_cons, List.not_mem_nil, or_false] at hx
  rcases hx with ((((((( rfl | rfl | rfl | rfl) | h) | h) | h) | h) | h) | h) | h
  · omega
  · omega
  · omega
  · omega
  all_goals exact be_bytes _ _ x h
theorem dec_hdr {L V M S P C : Int} (hv : valid19 L V M S P C) {d1 d2 d3 d4 d5 d6 d7 : Int} (h1 : 0 ≤ d1 ∧ d1 < 2 ^ 32) (h2 : 0 ≤ d2 ∧ d2 < 2 ^ 32) (h3 : 0 ≤ d3 ∧ d3 < 2 ^ 32)
    (h4 : 0 ≤ d4 ∧ d4 < 2 ^ 64) (h5 : 0 ≤ d5 ∧ d5 < 2 ^ 64) (h6 : 0 ≤ d6 ∧ d6 < 2 ^ 64) (h7 : 0 ≤ d7 ∧ d7 < 2 ^ 64) (r : List Int) (hr : bytesOk r) (hl : r.length ≤ 140737488354000) :
    ntpmsg_Decode.f (hdr L V M S P C d1 d2 d3 d4 d5 d6 d7 ++ r) = some (L, V, M, S, P, C, d1, d2, d3, d4, d5, d6, d7, r, 0) := by
  have hlen := hdr_length L V M S P C d1 d2 d3 d4 d5 d6 d7
  have hbo : bytesOk (hdr L V M S P C d1 d2 d3 d4 d5 d6 d7 ++ r) := by
    intro x hx
    rcases List.mem_append.1 hx with h | h
    · exact hdr_bytes hv _ _ _ _ _ _ _ x h
    · exact hr x h
  have t0 : (hdr L V M S P C d1 d2 d3 d4 d5 d6 d7 ++ r).take 1 = [L * 64 + V * 8 + M] := rfl
  have t1 : (hdr L V M S P C d1 d2 d3 d4 d5 d6 d7 ++ r).tail.take 1 = [S] := rfl
  have t2 : ((hdr L V M S P C d1 d2 d3 d4 d5 d6 d7 ++ r).drop 2).take 1 = [P % 256] := rfl
  have t3 : ((hdr L V M S P C d1 d2 d3 d4 d5 d6 d7 ++ r).drop 3).take 1 = [C % 256] := rfl
  have q : ∀ (pre mid post : List Int) (k s : Nat), hdr L V M S P C d1 d2 d3 d4 d5 d6 d7 ++ r = pre ++ (mid ++ post) → pre.length = k → mid.length = s → ((hdr L V M S P C d1 d2 d3 d4 d5 d6 d7 ++ r).drop k).take s = mid := by
    intro pre mid post k s e hk hs
    rw [e]; exact mid_of pre mid post k s hk hs
  have t4 := q [L * 64 + V * 8 + M, S, P % 256, C % 256] (be d1 4) (be d2 4 ++ be d3 4 ++ be d4 8 ++ be d5 8 ++ be d6 8 ++ be d7 8 ++ r) 4 4 (by simp [hdr]) rfl (be_length _ _)
  have t5 := q ([L * 64 + V * 8 + M, S, P % 256, C % 256] ++ be d1 4) (be d2 4) (be d3 4 ++ be d4 8 ++ be d5 8 ++ be d6 8 ++ be d7 8 ++ r) 8 4 (by simp [hdr]) (by simp [be_length]) (be_length _ _)
  have t6 := q ([L * 64 + V * 8 + M, S, P % 256, C % 256] ++ be d1 4 ++ be d2 4) (be d3 4) (be d4 8 ++ be d5 8 ++ be d6 8 ++ be d7 8 ++ r) 12 4 (by simp [hdr]) (by simp [be_length]) (be_length _ _)
  have t7 := q ([L * 64 + V * 8 + M, S, P % 256, C % 256] ++ be d1 4 ++ be d2 4 ++ be d3 4) (be d4 8) (be d5 8 ++ be d6 8 ++ be d7 8 ++ r) 16 8 (by simp [hdr]) (by simp [be_length]) (be_length _ _)
  have t8 := q ([L * 64 + V * 8 + M, S, P % 256, C % 256] ++ be d1 4 ++ be d2 4 ++ be d3 4 ++ be d4 8) (be d5 8) (be d6 8 ++ be d7 8 ++ r) 24 8 (by simp [hdr]) (by simp [be_length]) (be_length _ _)
  have t9 := q ([L * 64 + V * 8 + M, S, P % 256, C % 256] ++ be d1 4 ++ be d2 4 ++ be d3 4 ++ be d4 8 ++ be d5 8) (be d6 8) (be d7 8 ++ r) 32 8 (by simp [hdr]) (by simp [be_length]) (be_length _ _)
  have t10 := q ([L * 64 + V * 8 + M, S, P % 256, C % 256] ++ be d1 4 ++ be d2 4 ++ be d3 4 ++ be d4 8 ++ be d5 8 ++ be d6 8) (be d7 8) r 40 8 (by simp [hdr]) (by simp [be_length]) (be_length _ _)
  have t11 : (hdr L V M S P C d1 d2 d3 d4 d5 d6 d7 ++ r).drop 48 = r := by rw [← hlen, List.drop_left]
  have hlt : (hdr L V M S P C d1 d2 d3 d4 d5 d6 d7 ++ r).length = 48 + r.length := by rw [List.length_append, hlen]
  unfold ntpmsg_Decode.f
  rw [if_neg (by omega), if_pos ⟨by omega, hbo⟩, t0, t1, t2, t3, t4, t5, t6, t7, t8, t9, t10, t11]
  unfold valid19 at hv
  rw [acc_one _ (by omega) (by omega), acc_one _ (by omega) (by omega), acc_one _ (by omega) (by omega), acc_one _ (by omega) (by omega), up_one P (by omega) (by omega), up_one C (by omega) (by omega),
    acc_be d1 4 h1.1 (by simpa using h1.2) (by omega), acc_be d2 4 h2.1 (by simpa using h2.2) (by omega), acc_be d3 4 h3.1 (by simpa using h3.2) (by omega), acc_be d4 8 h4.1 (by simpa using h4.2) (by omega), acc_be d5 8 h5.1 (by simpa using h5.2) (by omega), acc_be d6 8 h6.1 (by simpa using h6.2) (by omega), acc_be d7 8 h7.1 (by simpa using h7.2) (by omega)]
  have e0 : wrap64 (L * 64 + V * 8 + M) = L * 64 + V * 8 + M := by unfold wrap64; omega
  have e1 : wrap64 S = S := by unfold wrap64; omega
  rw [e0, e1, and_seven _ (by omega) (by omega), and_seven _ (by omega) (by omega)]
  have e2 : (L * 64 + V * 8 + M) / 8 % 8 = V := by omega
  have e3 : (L * 64 + V * 8 + M) / 64 = L := by omega
  have e4 : (L * 64 + V * 8 + M) % 8 = M := by omega
  have e5 : d1 % 4294967296 = d1 := by omega
  have e6 : d2 % 4294967296 = d2 := by omega
  have e7 : d3 % 4294967296 = d3 := by omega
  rw [e2, e3, e4, e5, e6, e7, if_neg (by omega)]
end Go.Proofs.Ytpmkggcmnelhhaa.P
