/- What the two puts of layer 19 write. -/
import Derived.Test.YtpmkggcmnelhhaaPx5
import Derived.Test.YtpmkggcmnelhhaaPx8
namespace Go.Proofs.Ytpmkggcmnelhhaa.P
open Go.RowKit Go.Proofs.YtpmkggcmnelhhaaW.PrintWords Go.Proofs.YtpmkggcmnelhhaaW.PrintLast Go.Proofs.YtpmkggcmnelhhaaW.PrintMore

/-- The size bytes of n. -/
def be (n : Int) (s : Nat) : List Int := (List.range s).map (digit n s)
theorem be_length (n : Int) (s : Nat) : (be n s).length = s := by simp [be]
theorem digit_shift (n : Int) (s i : Nat) : digit n (s + 1) (i + 1) = digit n s i := by
  unfold digit
  rw [show s + 1 - 1 - (i + 1) = s - 1 - i by omega]
theorem be_cons (n : Int) (s : Nat) : be n (s + 1) = (n / 2 ^ (8 * s) % 256) :: be n s := by
  unfold be
  rw [List.range_succ_eq_map, List.map_cons, List.map_map]
  congr 1
  apply List.map_congr_left
  intro i _
  exact digit_shift n s i
theorem refput_l0 (n : Int) : ∀ (s k : Nat) (x : List Int), s ≤ 8 → s < k → x.length + s < 140737488355328 → timesyncref19_put.l0 k x n ((s : Int) - 1) = some (x ++ be n s) := by
  intro s
  induction s with
  | zero =>
    intro k x _ hk _
    obtain ⟨k, rfl⟩ : ∃ k', k = k' + 1 := ⟨k - 1, by omega⟩
    rw [timesyncref19_put.l0, if_neg (by omega)]
    simp [be]
  | succ s ih =>
    intro k x h8 hk hx
    obtain ⟨k, rfl⟩ : ∃ k', k = k' + 1 := ⟨k - 1, by omega⟩
    have e1 : wrap64 (8 * (((s + 1 : Nat) : Int) - 1)) = 8 * s := by unfold wrap64; omega
    have e2 : wrap64 (((s + 1 : Nat) : Int) - 1 - 1) = (s : Int) - 1 := by unfold wrap64; omega
    rw [timesyncref19_put.l0, if_pos (by omega), e1, e2, if_pos (by omega), if_pos (by omega), ih k _ (by omega) (by omega) (by simp; omega), be_cons, List.append_assoc]
    have e3 : shr .u64 n (8 * (s : Int)) = n / 2 ^ (8 * s) := by
      unfold shr
      rw [show min (8 * (s : Int)).toNat (IntKind.u64.bits) = 8 * s from by show min _ 64 = _; omega]
    rw [e3]; rfl
theorem refput (n : Int) (s k : Nat) (x : List Int) (h8 : s ≤ 8) (hk : 8 < k) (hx : x.length + s < 140737488355328) : timesyncref19_put.f k x n s = some (x ++ be n s) := by
  unfold timesyncref19_put.f
  rw [show wrap64 ((s : Int) - 1) = (s : Int) - 1 from by unfold wrap64; omega]
  exact refput_l0 n s k x h8 (by omega) hx
theorem app_ok (x : List Int) (n : Int) (s : Nat) (h1 : 1 ≤ s) (h8 : s ≤ 8) (h0 : 0 ≤ n) (hn : n < 2 ^ (8 * s)) (hx : x.length ≤ 140737488355000) : wire_Append.f x n s = some (x ++ be n s, 0) := by
  unfold wire_Append.f
  rw [if_pos h0, if_pos (by omega), Int.toNat_natCast, if_neg ?_, if_pos hx]
  · rfl
  · rintro ⟨_, h⟩
    exact h (Int.ediv_eq_zero_of_lt h0 hn)
/-- The bytes of fields. -/
def fieldsOf (l : List S48) : List Int := (l.map fun f => be f.f0 f.f1.toNat).flatten
def fieldOk (f : S48) : Prop := 0 ≤ f.f0 ∧ 1 ≤ f.f1 ∧ f.f1 ≤ 8 ∧ f.f0 < 2 ^ (8 * f.f1.toNat)
theorem put_l0 (fs : List S48) (hok : ∀ f ∈ fs, fieldOk f) (hfs : fs.length ≤ 100) : ∀ (d i k : Nat) (x : List Int), fs.length = i + d → d < k → x.length + 8 * d ≤ 140737488355000 → ntpmsg_put.l0 k x fs (fs.length : Int) i = some (x ++ fieldsOf (fs.drop i)) := by
  intro d
  induction d with
  | zero =>
    intro i k x hi hk hx
    obtain ⟨k, rfl⟩ : ∃ k', k = k' + 1 := ⟨k - 1, by omega⟩
    rw [ntpmsg_put.l0, if_neg (by omega), List.drop_of_length_le (by omega)]
    simp [fieldsOf]
  | succ d ih =>
    intro i k x hi hk hx
    obtain ⟨k, rfl⟩ : ∃ k', k = k' + 1 := ⟨k - 1, by omega⟩
    have hlt : i < fs.length := by omega
    have e1 : rd_T48 fs (i : Int) = fs[i] := by
      unfold rd_T48
      simp [List.getD_eq_getElem?_getD, hlt]
    have e2 : wrap64 ((i : Int) + 1) = ((i + 1 : Nat) : Int) := by unfold wrap64; omega
    obtain ⟨h0, h1, h8, hn⟩ := hok fs[i] (List.getElem_mem hlt)
    obtain ⟨s, hs⟩ := Int.eq_ofNat_of_zero_le (show 0 ≤ fs[i].f1 by omega)
    rw [ntpmsg_put.l0, if_pos (by omega), if_pos (by omega), if_pos (by omega), e1, e2]
    rw [hs] at h1 h8 hn ⊢
    rw [Int.toNat_natCast] at hn
    rw [app_ok x _ s (by omega) (by omega) h0 hn (by omega)]
    show ntpmsg_put.l0 k (x ++ be fs[i].f0 s) fs fs.length _ = _
    rw [ih (i + 1) k _ (by omega) (by omega) (by rw [List.length_append, be_length]; omega), List.append_assoc]
    congr 2
    rw [List.drop_eq_getElem_cons hlt]
    unfold fieldsOf
    rw [List.map_cons, List.flatten_cons, hs, Int.toNat_natCast]
end Go.Proofs.Ytpmkggcmnelhhaa.P
