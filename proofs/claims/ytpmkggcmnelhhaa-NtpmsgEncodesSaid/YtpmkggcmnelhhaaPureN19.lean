/- What the two puts of layer 19 write. -/
import Derived.Test.YtpmkggcmnelhhaaPx5
import Derived.Test.YtpmkggcmnelhhaaPx8
import Derived.Test.YtpmkggcmnelhhaaPx6
import Derived.Test.YtpmkggcmnelhhaaPx9
import Derived.Test.YtpmkggcmnelhhaaPx10
namespace Go.Proofs.Ytpmkggcmnelhhaa.P
open Go.RowKit Go.Proofs.YtpmkggcmnelhhaaW.PrintWords Go.Proofs.YtpmkggcmnelhhaaW.PrintLast Go.Proofs.YtpmkggcmnelhhaaW.PrintMore

/-- The size bytes of n. -/
def be (n : Int) (s : Nat) : List Int := (List.range s).map (digit n s)
theorem be_length (n : Int) (s : Nat) : (be n s).length = s := by simp [be]
theorem digit_shift (n : Int) (s i : Nat) : digit n (s + 1) (i + 1) = digit n s i := by
  unfold digit
  rw [show s + 1 - 1 - (i + 1) = s - 1 - i by omega]
theorem be_cons (n : Int) (s : Nat) : be n (s + 1) = (n / 2 ^ (8 * s) % 256) :: be n s := by
  unfold be
  rw [List.range_succ_eq_map, List.map_cons, List.map_map]
  congr 1
  apply List.map_congr_left
  intro i _
  exact digit_shift n s i
theorem refput_l0 (n : Int) : ∀ (s k : Nat) (x : List Int), s ≤ 8 → s < k → x.length + s < 140737488355328 → timesyncref19_put.l0 k x n ((s : Int) - 1) = some (x ++ be n s) := by
  intro s
  induction s with
  | zero =>
    intro k x _ hk _
    obtain ⟨k, rfl⟩ : ∃ k', k = k' + 1 := ⟨k - 1, by omega⟩
    rw [timesyncref19_put.l0, if_neg (by omega)]
    simp [be]
  | succ s ih =>
    intro k x h8 hk hx
    obtain ⟨k, rfl⟩ : ∃ k', k = k' + 1 := ⟨k - 1, by omega⟩
    have e1 : wrap64 (8 * (((s + 1 : Nat) : Int) - 1)) = 8 * s := by unfold wrap64; omega
    have e2 : wrap64 (((s + 1 : Nat) : Int) - 1 - 1) = (s : Int) - 1 := by unfold wrap64; omega
    rw [timesyncref19_put.l0, if_pos (by omega), e1, e2, if_pos (by omega), if_pos (by omega), ih k _ (by omega) (by omega) (by simp; omega), be_cons, List.append_assoc]
    have e3 : shr .u64 n (8 * (s : Int)) = n / 2 ^ (8 * s) := by
      unfold shr
      rw [show min (8 * (s : Int)).toNat (IntKind.u64.bits) = 8 * s from by show min _ 64 = _; omega]
    rw [e3]; rfl
theorem refput (n : Int) (s k : Nat) (x : List Int) (h8 : s ≤ 8) (hk : 8 < k) (hx : x.length + s < 140737488355328) : timesyncref19_put.f k x n s = some (x ++ be n s) := by
  unfold timesyncref19_put.f
  rw [show wrap64 ((s : Int) - 1) = (s : Int) - 1 from by unfold wrap64; omega]
  exact refput_l0 n s k x h8 (by omega) hx
theorem app_ok (x : List Int) (n : Int) (s : Nat) (h1 : 1 ≤ s) (h8 : s ≤ 8) (h0 : 0 ≤ n) (hn : n < 2 ^ (8 * s)) (hx : x.length ≤ 140737488355000) : wire_Append.f x n s = some (x ++ be n s, 0) := by
  unfold wire_Append.f
  rw [if_pos h0, if_pos (by omega), Int.toNat_natCast, if_neg ?_, if_pos hx]
  · rfl
  · rintro ⟨_, h⟩
    exact h (Int.ediv_eq_zero_of_lt h0 hn)
/-- The bytes of fields. -/
def fieldsOf (l : List S48) : List Int := (l.map fun f => be f.f0 f.f1.toNat).flatten
def fieldOk (f : S48) : Prop := 0 ≤ f.f0 ∧ 1 ≤ f.f1 ∧ f.f1 ≤ 8 ∧ f.f0 < 2 ^ (8 * f.f1.toNat)
theorem put_l0 (fs : List S48) (hok : ∀ f ∈ fs, fieldOk f) (hfs : fs.length ≤ 100) : ∀ (d i k : Nat) (x : List Int), fs.length = i + d → d < k → x.length + 8 * d ≤ 140737488355000 → ntpmsg_put.l0 k x fs (fs.length : Int) i = some (x ++ fieldsOf (fs.drop i)) := by
  intro d
  induction d with
  | zero =>
    intro i k x hi hk hx
    obtain ⟨k, rfl⟩ : ∃ k', k = k' + 1 := ⟨k - 1, by omega⟩
    rw [ntpmsg_put.l0, if_neg (by omega), List.drop_of_length_le (by omega)]
    simp [fieldsOf]
  | succ d ih =>
    intro i k x hi hk hx
    obtain ⟨k, rfl⟩ : ∃ k', k = k' + 1 := ⟨k - 1, by omega⟩
    have hlt : i < fs.length := by omega
    have e1 : rd_T48 fs (i : Int) = fs[i] := by
      unfold rd_T48
      simp [List.getD_eq_getElem?_getD, hlt]
    have e2 : wrap64 ((i : Int) + 1) = ((i + 1 : Nat) : Int) := by unfold wrap64; omega
    obtain ⟨h0, h1, h8, hn⟩ := hok fs[i] (List.getElem_mem hlt)
    obtain ⟨s, hs⟩ := Int.eq_ofNat_of_zero_le (show 0 ≤ fs[i].f1 by omega)
    rw [ntpmsg_put.l0, if_pos (by omega), if_pos (by omega), if_pos (by omega), e1, e2]
    rw [hs] at h1 h8 hn ⊢
    rw [Int.toNat_natCast] at hn
    rw [app_ok x _ s (by omega) (by omega) h0 hn (by omega)]
    show ntpmsg_put.l0 k (x ++ be fs[i].f0 s) fs fs.length _ = _
    rw [ih (i + 1) k _ (by omega) (by omega) (by rw [List.length_append, be_length]; omega), List.append_assoc]
    congr 2
    rw [List.drop_eq_getElem_cons hlt]
    unfold fieldsOf
    rw [List.map_cons, List.flatten_cons, hs, Int.toNat_natCast]
end Go.Proofs.Ytpmkggcmnelhhaa.P
namespace Go.Proofs.Ytpmkggcmnelhhaa.P
open Go.RowKit Go.Proofs.YtpmkggcmnelhhaaW.PrintWords Go.Proofs.YtpmkggcmnelhhaaW.PrintLast Go.Proofs.YtpmkggcmnelhhaaW.PrintMore

def valid19 (L V M S P C : Int) : Prop := 0 ≤ L ∧ L ≤ 3 ∧ 1 ≤ V ∧ V ≤ 4 ∧ 0 ≤ M ∧ M ≤ 7 ∧ 0 ≤ S ∧ S ≤ 255 ∧ -128 ≤ P ∧ P ≤ 127 ∧ -128 ≤ C ∧ C ≤ 127
instance (L V M S P C : Int) : Decidable (valid19 L V M S P C) := by unfold valid19; infer_instance
theorem in_eq (a lo hi : Int) : ntpmsg_in.f a lo hi = some (decide (lo ≤ a ∧ a ≤ hi)) := by
  unfold ntpmsg_in.f
  by_cases h : a ≥ lo
  · rw [if_pos h]; congr 1; simp; omega
  · rw [if_neg h]; congr 1; simp; omega
set_option maxHeartbeats 4000000 in
theorem check_spec (L V M S P C d1 d2 d3 d4 d5 d6 d7 : Int) : ntpmsg_Check.f L V M S P C d1 d2 d3 d4 d5 d6 d7 = some (if valid19 L V M S P C then 0 else 3) := by
  by_cases hv : valid19 L V M S P C
  all_goals
    first | rw [if_pos hv] | rw [if_neg hv]
    unfold valid19 at hv
    unfold ntpmsg_Check.f
    simp only [in_eq, Option.bind_some, decide_eq_true_eq]
    repeat' split
    all_goals first | rfl | omega
set_option maxHeartbeats 4000000 in
theorem refcheck_spec (L V M S P C d1 d2 d3 d4 d5 d6 d7 : Int) : timesyncref19_Check.f L V M S P C d1 d2 d3 d4 d5 d6 d7 = some (if valid19 L V M S P C then 0 else 3) := by
  by_cases hv : valid19 L V M S P C
  all_goals
    first | rw [if_pos hv] | rw [if_neg hv]
    unfold valid19 at hv
    unfold timesyncref19_Check.f
    repeat' split
    all_goals first | rfl | omega
theorem first_or : ∀ (L V M : Nat), L < 4 → V < 8 → M < 8 → Go.bits .or .i64 (Go.bits .or .i64 (wrap64 ((L : Int) * 64)) (wrap64 ((V : Int) * 8))) M = L * 64 + V * 8 + M := by
  have h : ∀ (L : Fin 4) (V : Fin 8) (M : Fin 8), Go.bits .or .i64 (Go.bits .or .i64 (wrap64 ((L.val : Int) * 64)) (wrap64 ((V.val : Int) * 8))) M.val = L.val * 64 + V.val * 8 + M.val := by decide +kernel
  intro L V M hL hV hM
  exact h ⟨L, hL⟩ ⟨V, hV⟩ ⟨M, hM⟩
theorem and_255 (x : Int) (h0 : -128 ≤ x) (h1 : x ≤ 127) : (Go.bits .and .i64 x 255) % 256 = x % 256 := by
  have h : ∀ n : Fin 256, (Go.bits .and .i64 ((n.val : Int) - 128) 255) % 256 = ((n.val : Int) - 128) % 256 := by decide +kernel
  have := h ⟨(x + 128).toNat, by omega⟩
  have e : (((x + 128).toNat : Nat) : Int) - 128 = x := by omega
  dsimp only at this
  rw [e] at this
  exact this
end Go.Proofs.Ytpmkggcmnelhhaa.P
namespace Go.Proofs.Ytpmkggcmnelhhaa.P
open Go.RowKit Go.Proofs.YtpmkggcmnelhhaaW.PrintWords Go.Proofs.YtpmkggcmnelhhaaW.PrintLast Go.Proofs.YtpmkggcmnelhhaaW.PrintMore

/-- The bytes of a header. -/
def hdr (L V M S P C : Int) (d1 d2 d3 d4 d5 d6 d7 : Int) : List Int :=
  [L * 64 + V * 8 + M, S, P % 256, C % 256] ++ be d1 4 ++ be d2 4 ++ be d3 4 ++ be d4 8 ++ be d5 8 ++ be d6 8 ++ be d7 8
theorem be_one (n : Int) : be n 1 = [n % 256] := by simp [be, digit]
theorem enc_ok (k : Nat) (hk : 20 < k) (L V M S P C d1 d2 d3 d4 d5 d6 d7 : Int) (hv : valid19 L V M S P C) (h1 : 0 ≤ d1 ∧ d1 < 2 ^ 32) (h2 : 0 ≤ d2 ∧ d2 < 2 ^ 32) (h3 : 0 ≤ d3 ∧ d3 < 2 ^ 32)
    (h4 : 0 ≤ d4 ∧ d4 < 2 ^ 64) (h5 : 0 ≤ d5 ∧ d5 < 2 ^ 64) (h6 : 0 ≤ d6 ∧ d6 < 2 ^ 64) (h7 : 0 ≤ d7 ∧ d7 < 2 ^ 64) :
    ntpmsg_Encode.f k L V M S P C d1 d2 d3 d4 d5 d6 d7 = some (hdr L V M S P C d1 d2 d3 d4 d5 d6 d7, 0) := by
  unfold ntpmsg_Encode.f
  rw [check_spec, if_pos hv, Option.bind_some, if_pos rfl]
  unfold valid19 at hv
  obtain ⟨l, rfl⟩ := Int.eq_ofNat_of_zero_le (show 0 ≤ L by omega)
  obtain ⟨v, rfl⟩ := Int.eq_ofNat_of_zero_le (show 0 ≤ V by omega)
  obtain ⟨m, rfl⟩ := Int.eq_ofNat_of_zero_le (show 0 ≤ M by omega)
  rw [first_or l v m (by omega) (by omega) (by omega)]
  have w1 : ∀ d : Int, 0 ≤ d ∧ d < 2 ^ 32 → IntKind.u64.wrap d = d := fun d h => by rw [IntKind.wrap_u64]; omega
  have wf : IntKind.u64.wrap ((l : Int) * 64 + v * 8 + m) = l * 64 + v * 8 + m := by rw [IntKind.wrap_u64]; omega
  have ws : IntKind.u64.wrap S = S := by rw [IntKind.wrap_u64]; omega
  rw [wf, ws, w1 d1 h1, w1 d2 h2, w1 d3 h3]
  unfold ntpmsg_put.f
  rw [show (0 : Int) = ((0 : Nat) : Int) from rfl, put_l0 _ ?_ (by simp) 11 0 k [] (by simp) (by omega) (by simp)]
  · simp only [Option.bind_some, List.drop_zero, List.nil_append]
    congr 2
    unfold fieldsOf hdr
    simp only [List.map_cons, List.map_nil, List.flatten_cons, List.flatten_nil, List.append_nil, show (1 : Int).toNat = 1 from rfl, show (4 : Int).toNat = 4 from rfl, show (8 : Int).toNat = 8 from rfl, be_one]
    have e1 : ((l : Int) * 64 + v * 8 + m) % 256 = l * 64 + v * 8 + m := by omega
    have e2 : S % 256 = S := by omega
    have e3 : P % 256 % 256 = P % 256 := by omega
    have e4 : C % 256 % 256 = C % 256 := by omega
    rw [e1, e2, e3, e4]
    simp only [List.cons_append, List.nil_append, List.append_assoc]
  · intro f hf
    simp only [List.mem_cons, List.not_mem_nil, or_false] at hf
    rcases hf with rfl | rfl | rfl | rfl | rfl | rfl | rfl | rfl | rfl | rfl | rfl
    all_goals
      refine ⟨?_, ?_, ?_, ?_⟩
      all_goals dsimp only
      all_goals first | omega | (show _ < (2 : Int) ^ 8; omega) | (show _ < (2 : Int) ^ 32; omega) | (show _ < (2 : Int) ^ 64; omega)
theorem refenc_ok (k : Nat) (hk : 20 < k) (L V M S P C d1 d2 d3 d4 d5 d6 d7 : Int) (hv : valid19 L V M S P C) (h1 : 0 ≤ d1 ∧ d1 < 2 ^ 32) (h2 : 0 ≤ d2 ∧ d2 < 2 ^ 32) (h3 : 0 ≤ d3 ∧ d3 < 2 ^ 32) :
    timesyncref19_Encode.f k L V M S P C d1 d2 d3 d4 d5 d6 d7 = some (hdr L V M S P C d1 d2 d3 d4 d5 d6 d7, 0) := by
  unfold timesyncref19_Encode.f
  rw [refcheck_spec, if_pos hv, Option.bind_some, if_pos rfl]
  unfold valid19 at hv
  have w1 : ∀ d : Int, 0 ≤ d ∧ d < 2 ^ 32 → IntKind.u64.wrap d = d := fun d h => by rw [IntKind.wrap_u64]; omega
  have wf : wrap64 (wrap64 (wrap64 (L * 64) + wrap64 (V * 8)) + M) % 256 = L * 64 + V * 8 + M := by unfold wrap64; omega
  rw [w1 d1 h1, w1 d2 h2, w1 d3 h3, wf, and_255 P (by omega) (by omega), and_255 C (by omega) (by omega), show S % 256 = S by omega]
  rw [show (4 : Int) = ((4 : Nat) : Int) from rfl, show (8 : Int) = ((8 : Nat) : Int) from rfl]
  rw [refput _ 4 k _ (by omega) (by omega) (by simp), Option.bind_some, refput _ 4 k _ (by omega) (by omega) (by simp [be_length]), Option.bind_some, refput _ 4 k _ (by omega) (by omega) (by simp [be_length]), Option.bind_some,
    refput _ 8 k _ (by omega) (by omega) (by simp [be_length]), Option.bind_some, refput _ 8 k _ (by omega) (by omega) (by simp [be_length]), Option.bind_some, refput _ 8 k _ (by omega) (by omega) (by simp [be_length]), Option.bind_some, refput _ 8 k _ (by omega) (by omega) (by simp [be_length]), Option.bind_some]
  rfl
end Go.Proofs.Ytpmkggcmnelhhaa.P
