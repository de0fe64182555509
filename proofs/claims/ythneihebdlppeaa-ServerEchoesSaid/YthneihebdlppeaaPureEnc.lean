/- The bytes of a header, both ways. -/
import Derived.Test.YthneihebdlppeaaPureAccG
import Derived.Test.YthneihebdlppeaaXDec
import Derived.Test.YthneihebdlppeaaPx33
import Derived.Test.YthneihebdlppeaaPx34
namespace Go.Proofs.Ythneihebdlppeaa.P
open Go.RowKit Go.Proofs.YthneihebdlppeaaW.PrintWords Go.Proofs.YthneihebdlppeaaW.PrintLast Go.Proofs.YthneihebdlppeaaW.PrintMore Go.Proofs.Ythneihebdlppeaa.Rd

def valid19 (L V M S P C : Int) : Prop := 0 ≤ L ∧ L ≤ 3 ∧ 1 ≤ V ∧ V ≤ 4 ∧ 0 ≤ M ∧ M ≤ 7 ∧ 0 ≤ S ∧ S ≤ 255 ∧ -128 ≤ P ∧ P ≤ 127 ∧ -128 ≤ C ∧ C ≤ 127
instance (L V M S P C : Int) : Decidable (valid19 L V M S P C) := by unfold valid19; infer_instance
theorem in_eq (a lo hi : Int) : ntpmsg_in.f a lo hi = some (decide (lo ≤ a ∧ a ≤ hi)) := by
  unfold ntpmsg_in.f
  by_cases h : a ≥ lo
  · rw [if_pos h]; congr 1; simp; omega
  · rw [if_neg h]; congr 1; simp; omega
set_option maxHeartbeats 4000000 in
theorem check_spec (L V M S P C d1 d2 d3 d4 d5 d6 d7 : Int) : ntpmsg_Check.f L V M S P C d1 d2 d3 d4 d5 d6 d7 = some (if valid19 L V M S P C then 0 else 3) := by
  by_cases hv : valid19 L V M S P C
  all_goals
    first | rw [if_pos hv] | rw [if_neg hv]
    unfold valid19 at hv
    unfold ntpmsg_Check.f
    simp only [in_eq, Option.bind_some, decide_eq_true_eq]
    repeat' split
    all_goals first | rfl | omega
/-- The bytes of fields. -/
def fieldsOf (l : List S76) : List Int := (l.map fun f => be f.f0 f.f1.toNat).flatten
def fieldOk (f : S76) : Prop := 0 ≤ f.f0 ∧ 1 ≤ f.f1 ∧ f.f1 ≤ 8 ∧ f.f0 < 2 ^ (8 * f.f1.toNat)
theorem put_l0 (fs : List S76) (hok : ∀ f ∈ fs, fieldOk f) (hfs : fs.length ≤ 100) : ∀ (d i k : Nat) (x : List Int), fs.length = i + d → d < k → x.length + 8 * d ≤ 140737488355000 → ntpmsg_put.l0 k x fs (fs.length : Int) i = some (x ++ fieldsOf (fs.drop i)) := by
  intro d
  induction d with
  | zero =>
    intro i k x hi hk hx
    obtain ⟨k, rfl⟩ : ∃ k', k = k' + 1 := ⟨k - 1, by omega⟩
    rw [ntpmsg_put.l0, if_neg (by omega), List.drop_of_length_le (by omega)]
    simp [fieldsOf]
  | succ d ih =>
    intro i k x hi hk hx
    obtain ⟨k, rfl⟩ : ∃ k', k = k' + 1 := ⟨k - 1, by omega⟩
    have hlt : i < fs.length := by omega
    have e1 : rd_T76 fs (i : Int) = fs[i] := by
      unfold rd_T76
      simp [List.getD_eq_getElem?_getD, hlt]
    have e2 : wrap64 ((i : Int) + 1) = ((i + 1 : Nat) : Int) := by unfold wrap64; omega
    obtain ⟨h0, h1, h8, hn⟩ := hok fs[i] (List.getElem_mem hlt)
    obtain ⟨s, hs⟩ := Int.eq_ofNat_of_zero_le (show 0 ≤ fs[i].f1 by omega)
    rw [ntpmsg_put.l0, if_pos (by omega), if_pos (by omega), if_pos (by omega), e1, e2]
    rw [hs] at h1 h8 hn ⊢
    rw [Int.toNat_natCast] at hn
    rw [app_fits x _ s (by omega) (by omega) h0 hn (by omega)]
    show ntpmsg_put.l0 k (x ++ be fs[i].f0 s) fs fs.length _ = _
    rw [ih (i + 1) k _ (by omega) (by omega) (by rw [List.length_append, be_length]; omega), List.append_assoc]
    congr 2
    rw [List.drop_eq_getElem_cons hlt]
    unfold fieldsOf
    rw [List.map_cons, List.flatten_cons, hs, Int.toNat_natCast]
theorem first_or : ∀ (L V M : Nat), L < 4 → V < 8 → M < 8 → Go.bits .or .i64 (Go.bits .or .i64 (wrap64 ((L : Int) * 64)) (wrap64 ((V : Int) * 8))) M = L * 64 + V * 8 + M := by
  have h : ∀ (L : Fin 4) (V : Fin 8) (M : Fin 8), Go.bits .or .i64 (Go.bits .or .i64 (wrap64 ((L.val : Int) * 64)) (wrap64 ((V.val : Int) * 8))) M.val = L.val * 64 + V.val * 8 + M.val := by decide +kernel
  intro L V M hL hV hM
  exact h ⟨L, hL⟩ ⟨V, hV⟩ ⟨M, hM⟩
/-- The bytes of a header. -/
def hdr (L V M S P C : Int) (d1 d2 d3 d4 d5 d6 d7 : Int) : List Int :=
  [L * 64 + V * 8 + M, S, P % 256, C % 256] ++ be d1 4 ++ be d2 4 ++ be d3 4 ++ be d4 8 ++ be d5 8 ++ be d6 8 ++ be d7 8
theorem be_one (n : Int) : be n 1 = [n % 256] := by simp [be, digit]
theorem enc_ok (k : Nat) (hk : 20 < k) (L V M S P C d1 d2 d3 d4 d5 d6 d7 : Int) (hv : valid19 L V M S P C) (h1 : 0 ≤ d1 ∧ d1 < 2 ^ 32) (h2 : 0 ≤ d2 ∧ d2 < 2 ^ 32) (h3 : 0 ≤ d3 ∧ d3 < 2 ^ 32)
    (h4 : 0 ≤ d4 ∧ d4 < 2 ^ 64) (h5 : 0 ≤ d5 ∧ d5 < 2 ^ 64) (h6 : 0 ≤ d6 ∧ d6 < 2 ^ 64) (h7 : 0 ≤ d7 ∧ d7 < 2 ^ 64) :
    ntpmsg_Encode.f k L V M S P C d1 d2 d3 d4 d5 d6 d7 = some (hdr L V M S P C d1 d2 d3 d4 d5 d6 d7, 0) := by
  unfold ntpmsg_Encode.f
  rw [check_spec, if_pos hv, Option.bind_some, if_pos rfl]
  unfold valid19 at hv
  obtain ⟨l, rfl⟩ := Int.eq_ofNat_of_zero_le (show 0 ≤ L by omega)
  obtain ⟨v, rfl⟩ := Int.eq_ofNat_of_zero_le (show 0 ≤ V by omega)
  obtain ⟨m, rfl⟩ := Int.eq_ofNat_of_zero_le (show 0 ≤ M by omega)
  rw [first_or l v m (by omega) (by omega) (by omega)]
  have w1 : ∀ d : Int, 0 ≤ d ∧ d < 2 ^ 32 → IntKind.u64.wrap d = d := fun d h => by rw [IntKind.wrap_u64]; omega
  have wf : IntKind.u64.wrap ((l : Int) * 64 + v * 8 + m) = l * 64 + v * 8 + m := by rw [IntKind.wrap_u64]; omega
  have ws : IntKind.u64.wrap S = S := by rw [IntKind.wrap_u64]; omega
  rw [wf, ws, w1 d1 h1, w1 d2 h2, w1 d3 h3]
  unfold ntpmsg_put.f
  rw [show (0 : Int) = ((0 : Nat) : Int) from rfl, put_l0 _ ?_ (by simp) 11 0 k [] (by simp) (by omega) (by simp)]
  · simp only [Option.bind_some, List.drop_zero, List.nil_append]
    congr 2
    unfold fieldsOf hdr
    simp only [List.map_cons, List.map_nil, List.flatten_cons, List.flatten_nil, List.append_nil, show (1 : Int).toNat = 1 from rfl, show (4 : Int).toNat = 4 from rfl, show (8 : Int).toNat = 8 from rfl, be_one]
    have e1 : ((l : Int) * 64 + v * 8 + m) % 256 = l * 64 + v * 8 + m := by omega
    have e2 : S % 256 = S := by omega
    have e3 : P % 256 % 256 = P % 256 := by omega
    have e4 : C % 256 % 256 = C % 256 := by omega
    rw [e1, e2, e3, e4]
    simp only [List.cons_append, List.nil_append, List.append_assoc]
  · intro f hf
    simp only [List.mem_cons, List.not_mem_nil, or_false] at hf
    rcases hf with rfl | rfl | rfl | rfl | rfl | rfl | rfl | rfl | rfl | rfl | rfl
    all_goals
      refine ⟨?_, ?_, ?_, ?_⟩
      all_goals dsimp only
      all_goals first | omega | (show _ < (2 : Int) ^ 8; omega) | (show _ < (2 : Int) ^ 32; omega) | (show _ < (2 : Int) ^ 64; omega)
theorem acc_one (x : Int) (h0 : 0 ≤ x) (h1 : x ≤ 255) : acc [x] 1 = x := by
  have hb : bytesOk [x] := by intro y hy; rw [List.mem_singleton] at hy; subst hy; exact ⟨h0, h1⟩
  rw [acc_val hb 1 (by omega)]
  simp [val, rd]
theorem up_one (P : Int) (h0 : -128 ≤ P) (h1 : P ≤ 127) : upDown (P % 256) 1 = P := by
  unfold upDown
  rw [IntKind.wrap_u64, show (2 : Int) ^ (64 - 8 * 1) = 72057594037927936 from rfl]
  unfold wrap64
  omega
theorem and_seven (x : Int) (h0 : 0 ≤ x) (h1 : x ≤ 255) : bits .and .i64 x 7 = x % 8 := by
  have h : ∀ n : Fin 256, Go.bits .and .i64 (n.val : Int) 7 = (n.val : Int) % 8 := by decide +kernel
  have := h ⟨x.toNat, by omega⟩
  dsimp only at this
  rw [show ((x.toNat : Nat) : Int) = x by omega] at this
  exact this
theorem hdr_length (L V M S P C d1 d2 d3 d4 d5 d6 d7 : Int) : (hdr L V M S P C d1 d2 d3 d4 d5 d6 d7).length = 48 := by
  simp [hdr, be_length]
theorem hdr_bytes {L V M S P C : Int} (hv : valid19 L V M S P C) (d1 d2 d3 d4 d5 d6 d7 : Int) : bytesOk (hdr L V M S P C d1 d2 d3 d4 d5 d6 d7) := by
  unfold valid19 at hv
  intro x hx
  unfold hdr at hx
  simp only [List.mem_append, List.mem_cons, List.not_mem_nil, or_false] at hx
  rcases hx with ((((((( rfl | rfl | rfl | rfl) | h) | h) | h) | h) | h) | h) | h
  · omega
  · omega
  · omega
  · omega
  all_goals exact be_bytes _ _ x h
theorem dec_hdr {L V M S P C : Int} (hv : valid19 L V M S P C) {d1 d2 d3 d4 d5 d6 d7 : Int} (h1 : 0 ≤ d1 ∧ d1 < 2 ^ 32) (h2 : 0 ≤ d2 ∧ d2 < 2 ^ 32) (h3 : 0 ≤ d3 ∧ d3 < 2 ^ 32)
    (h4 : 0 ≤ d4 ∧ d4 < 2 ^ 64) (h5 : 0 ≤ d5 ∧ d5 < 2 ^ 64) (h6 : 0 ≤ d6 ∧ d6 < 2 ^ 64) (h7 : 0 ≤ d7 ∧ d7 < 2 ^ 64) (r : List Int) (hr : bytesOk r) (hl : r.length ≤ 140737488354000) :
    ntpmsg_Decode.f (hdr L V M S P C d1 d2 d3 d4 d5 d6 d7 ++ r) = some (L, V, M, S, P, C, d1, d2, d3, d4, d5, d6, d7, r, 0) := by
  have hlen := hdr_length L V M S P C d1 d2 d3 d4 d5 d6 d7
  have hbo : bytesOk (hdr L V M S P C d1 d2 d3 d4 d5 d6 d7 ++ r) := by
    intro x hx
    rcases List.mem_append.1 hx with h | h
    · exact hdr_bytes hv _ _ _ _ _ _ _ x h
    · exact hr x h
  have t0 : (hdr L V M S P C d1 d2 d3 d4 d5 d6 d7 ++ r).take 1 = [L * 64 + V * 8 + M] := rfl
  have t1 : (hdr L V M S P C d1 d2 d3 d4 d5 d6 d7 ++ r).tail.take 1 = [S] := rfl
  have t2 : ((hdr L V M S P C d1 d2 d3 d4 d5 d6 d7 ++ r).drop 2).take 1 = [P % 256] := rfl
  have t3 : ((hdr L V M S P C d1 d2 d3 d4 d5 d6 d7 ++ r).drop 3).take 1 = [C % 256] := rfl
  have q : ∀ (pre mid post : List Int) (k s : Nat), hdr L V M S P C d1 d2 d3 d4 d5 d6 d7 ++ r = pre ++ (mid ++ post) → pre.length = k → mid.length = s → ((hdr L V M S P C d1 d2 d3 d4 d5 d6 d7 ++ r).drop k).take s = mid := by
    intro pre mid post k s e hk hs
    rw [e]; exact mid_of pre mid post k s hk hs
  have t4 := q [L * 64 + V * 8 + M, S, P % 256, C % 256] (be d1 4) (be d2 4 ++ be d3 4 ++ be d4 8 ++ be d5 8 ++ be d6 8 ++ be d7 8 ++ r) 4 4 (by simp [hdr]) rfl (be_length _ _)
  have t5 := q ([L * 64 + V * 8 + M, S, P % 256, C % 256] ++ be d1 4) (be d2 4) (be d3 4 ++ be d4 8 ++ be d5 8 ++ be d6 8 ++ be d7 8 ++ r) 8 4 (by simp [hdr]) (by simp [be_length]) (be_length _ _)
  have t6 := q ([L * 64 + V * 8 + M, S, P % 256, C % 256] ++ be d1 4 ++ be d2 4) (be d3 4) (be d4 8 ++ be d5 8 ++ be d6 8 ++ be d7 8 ++ r) 12 4 (by simp [hdr]) (by simp [be_length]) (be_length _ _)
  have t7 := q ([L * 64 + V * 8 + M, S, P % 256, C % 256] ++ be d1 4 ++ be d2 4 ++ be d3 4) (be d4 8) (be d5 8 ++ be d6 8 ++ be d7 8 ++ r) 16 8 (by simp [hdr]) (by simp [be_length]) (be_length _ _)
  have t8 := q ([L * 64 + V * 8 + M, S, P % 256, C % 256] ++ be d1 4 ++ be d2 4 ++ be d3 4 ++ be d4 8) (be d5 8) (be d6 8 ++ be d7 8 ++ r) 24 8 (by simp [hdr]) (by simp [be_length]) (be_length _ _)
  have t9 := q ([L * 64 + V * 8 + M, S, P % 256, C % 256] ++ be d1 4 ++ be d2 4 ++ be d3 4 ++ be d4 8 ++ be d5 8) (be d6 8) (be d7 8 ++ r) 32 8 (by simp [hdr]) (by simp [be_length]) (be_length _ _)
  have t10 := q ([L * 64 + V * 8 + M, S, P % 256, C % 256] ++ be d1 4 ++ be d2 4 ++ be d3 4 ++ be d4 8 ++ be d5 8 ++ be d6 8) (be d7 8) r 40 8 (by simp [hdr]) (by simp [be_length]) (be_length _ _)
  have t11 : (hdr L V M S P C d1 d2 d3 d4 d5 d6 d7 ++ r).drop 48 = r := by rw [← hlen, List.drop_left]
  have hlt : (hdr L V M S P C d1 d2 d3 d4 d5 d6 d7 ++ r).length = 48 + r.length := by rw [List.length_append, hlen]
  unfold ntpmsg_Decode.f
  rw [if_neg (by omega), if_pos ⟨by omega, hbo⟩, t0, t1, t2, t3, t4, t5, t6, t7, t8, t9, t10, t11]
  unfold valid19 at hv
  rw [acc_one _ (by omega) (by omega), acc_one _ (by omega) (by omega), acc_one _ (by omega) (by omega), acc_one _ (by omega) (by omega), up_one P (by omega) (by omega), up_one C (by omega) (by omega),
    acc_be d1 4 h1.1 (by simpa using h1.2) (by omega), acc_be d2 4 h2.1 (by simpa using h2.2) (by omega), acc_be d3 4 h3.1 (by simpa using h3.2) (by omega), acc_be d4 8 h4.1 (by simpa using h4.2) (by omega), acc_be d5 8 h5.1 (by simpa using h5.2) (by omega), acc_be d6 8 h6.1 (by simpa using h6.2) (by omega), acc_be d7 8 h7.1 (by simpa using h7.2) (by omega)]
  have e0 : wrap64 (L * 64 + V * 8 + M) = L * 64 + V * 8 + M := by unfold wrap64; omega
  have e1 : wrap64 S = S := by unfold wrap64; omega
  rw [e0, e1, and_seven _ (by omega) (by omega), and_seven _ (by omega) (by omega)]
  have e2 : (L * 64 + V * 8 + M) / 8 % 8 = V := by omega
  have e3 : (L * 64 + V * 8 + M) / 64 = L := by omega
  have e4 : (L * 64 + V * 8 + M) % 8 = M := by omega
  have e5 : d1 % 4294967296 = d1 := by omega
  have e6 : d2 % 4294967296 = d2 := by omega
  have e7 : d3 % 4294967296 = d3 := by omega
  rw [e2, e3, e4, e5, e6, e7, if_neg (by omega)]
end Go.Proofs.Ythneihebdlppeaa.P
