/- Candidates: whether a list is right, the weights and the mean, both ways. -/
import Derived.Test.YtgbajigcmadofaaPx16
import Derived.Test.YtgbajigcmadofaaXJit26
import Derived.Test.YtgbajigcmadofaaPx5
namespace Go.Proofs.Ytgbajigcmadofaa.P
open Go.RowKit Go.Proofs.YtgbajigcmadofaaW.PrintWords Go.Proofs.YtgbajigcmadofaaW.PrintLast Go.Proofs.YtgbajigcmadofaaW.PrintMore

def validC (c : S34) : Prop := 0 ≤ c.f0 ∧ c.f0 ≤ 2147483647 ∧ -4503599627370496 ≤ c.f1 ∧ c.f1 ≤ 4503599627370496 ∧ 0 ≤ c.f2 ∧ c.f2 ≤ 9007199254740992 ∧ 0 ≤ c.f3 ∧ c.f3 ≤ 9007199254740992 ∧ 1 ≤ c.f4 ∧ c.f4 ≤ 16
instance (c : S34) : Decidable (validC c) := by unfold validC; infer_instance
def dup (l : List S34) (i : Nat) : Nat → Nat → Bool
  | _, 0 => false
  | j, m + 1 => if (rd_T34 l (j : Int)).f0 = (rd_T34 l (i : Int)).f0 then true else dup l i (j + 1) m
def chk (l : List S34) : Nat → Nat → Int
  | 0, _ => 0
  | d + 1, i => if validC (rd_T34 l (i : Int)) then if dup l i 0 i = true then 10 else chk l d (i + 1) else 3
theorem rd_take (l : List S34) (i j : Nat) (h : j < i) : rd_T34 (l.take i) (j : Int) = rd_T34 l (j : Int) := by
  unfold rd_T34
  rw [Int.toNat_natCast, List.getD_eq_getElem?_getD, List.getD_eq_getElem?_getD, List.getElem?_take_of_lt h]
theorem w_small (x : Int) (h0 : 0 ≤ x) (h1 : x ≤ 1000000) : wrap64 x = x := by unfold wrap64; omega
theorem right_ok (c : S34) : timesyncref24_right.f c.f0 c.f1 c.f2 c.f3 c.f4 = some (decide (validC c)) := by
  unfold timesyncref24_right.f timesyncref24_within.f validC
  by_cases h0 : 0 ≤ c.f0 <;> by_cases h1 : c.f0 ≤ 2147483647 <;> simp [h0, h1]
  by_cases h2 : -4503599627370496 ≤ c.f1 <;> by_cases h3 : c.f1 ≤ 4503599627370496 <;> simp [h2, h3]
  by_cases h4 : 0 ≤ c.f2 <;> by_cases h5 : c.f2 ≤ 9007199254740992 <;> simp [h4, h5]
  by_cases h6 : 0 ≤ c.f3 <;> by_cases h7 : c.f3 ≤ 9007199254740992 <;> simp [h6, h7]
  by_cases h8 : 1 ≤ c.f4 <;> by_cases h9 : c.f4 ≤ 16 <;> simp [h8, h9]
theorem ref_in (l : List S34) (i : Nat) (hi : i < l.length) (hn : l.length ≤ 12) (R : Int) (B : Nat) (rest : ∀ k, B ≤ k → timesyncref24_Check.l0 k l ((i + 1 : Nat) : Int) = some R) :
    ∀ (m j k : Nat), j + m = i → B + m + 1 ≤ k → timesyncref24_Check.l1 k l i j = some (if dup l i j m = true then 10 else R) := by
  intro m
  induction m with
  | zero =>
    intro j k hj hk
    obtain ⟨k, rfl⟩ : ∃ k', k = k' + 1 := ⟨k - 1, by omega⟩
    rw [timesyncref24_Check.l1, if_neg (by omega), dup, if_neg (by simp), show ((i : Nat) : Int) + 1 = ((i + 1 : Nat) : Int) by omega, w_small _ (by omega) (by omega)]
    exact rest k (by omega)
  | succ m ih =>
    intro j k hj hk
    obtain ⟨k, rfl⟩ : ∃ k', k = k' + 1 := ⟨k - 1, by omega⟩
    rw [timesyncref24_Check.l1, if_pos (by omega), if_pos (by omega), if_pos (by omega), if_pos (by omega), if_pos (by omega), dup]
    by_cases h : (rd_T34 l (j : Int)).f0 = (rd_T34 l (i : Int)).f0
    · rw [if_pos h, if_pos h, if_pos rfl]
    · rw [if_neg h, if_neg h, show ((j : Nat) : Int) + 1 = ((j + 1 : Nat) : Int) by omega, w_small _ (by omega) (by omega)]
      exact ih (j + 1) k (by omega) (by omega)
theorem ref_chk (l : List S34) (hn : l.length ≤ 12) : ∀ (d i k : Nat), i + d = l.length → (d + 1) * 20 ≤ k → timesyncref24_Check.l0 k l i = some (chk l d i) := by
  intro d
  induction d with
  | zero =>
    intro i k hi hk
    obtain ⟨k, rfl⟩ : ∃ k', k = k' + 1 := ⟨k - 1, by omega⟩
    rw [timesyncref24_Check.l0, if_neg (by omega), chk]
  | succ d ih =>
    intro i k hi hk
    obtain ⟨k, rfl⟩ : ∃ k', k = k' + 1 := ⟨k - 1, by omega⟩
    rw [timesyncref24_Check.l0, if_pos (by omega), if_pos (by omega), right_ok, Option.bind_some, chk]
    by_cases hv : validC (rd_T34 l (i : Int))
    · rw [if_pos (decide_eq_true hv), if_pos hv]
      exact ref_in l i (by omega) hn _ ((d + 1) * 20) (fun k' hk' => ih (i + 1) k' (by omega) hk') i 0 k (by omega) (by omega)
    · rw [if_neg (by simpa using hv), if_neg hv]
theorem cho_in (l : List S34) (i : Nat) (hi : i < l.length) (hn : l.length ≤ 12) (R : Int) (B : Nat) (b1 b2 b3 b4 : Int) (rest : ∀ k, B ≤ k → choose_Check.l0 k l l l.length ((i + 1 : Nat) : Int) = some R) :
    ∀ (m j k : Nat), j + m = i → B + m + 1 ≤ k → choose_Check.l1 k l l l.length i (l.take i) ((l.take i).length : Int) j (rd_T34 l (i : Int)).f0 b1 b2 b3 b4 = some (if dup l i j m = true then 10 else R) := by
  have ht : (l.take i).length = i := by rw [List.length_take]; omega
  intro m
  induction m with
  | zero =>
    intro j k hj hk
    obtain ⟨k, rfl⟩ : ∃ k', k = k' + 1 := ⟨k - 1, by omega⟩
    rw [choose_Check.l1, ht, if_neg (by omega), dup, if_neg (by simp), show ((i : Nat) : Int) + 1 = ((i + 1 : Nat) : Int) by omega, w_small _ (by omega) (by omega)]
    exact rest k (by omega)
  | succ m ih =>
    intro j k hj hk
    obtain ⟨k, rfl⟩ : ∃ k', k = k' + 1 := ⟨k - 1, by omega⟩
    have ih' := ih (j + 1) k (by omega) (by omega)
    rw [ht] at ih'
    rw [choose_Check.l1, ht, if_pos (by omega), if_pos (by omega), if_pos (by omega), dup, rd_take l i j (by omega)]
    by_cases h : (rd_T34 l (j : Int)).f0 = (rd_T34 l (i : Int)).f0
    · rw [if_pos h, if_pos h, if_pos rfl]
    · rw [if_neg h, if_neg h, show ((j : Nat) : Int) + 1 = ((j + 1 : Nat) : Int) by omega, w_small _ (by omega) (by omega)]
      exact ih'
set_option maxHeartbeats 4000000 in
theorem cho_step (l : List S34) (i : Nat) (hi : i < l.length) (k : Nat) : ∃ b : Bool, b = !decide (validC (rd_T34 l (i : Int))) ∧ choose_Check.l0 (k + 1) l l l.length i =
    choose_Check.j1 k l i l l.length i b (rd_T34 l (i : Int)).f0 (rd_T34 l (i : Int)).f1 (rd_T34 l (i : Int)).f2 (rd_T34 l (i : Int)).f3 (rd_T34 l (i : Int)).f4 := by
  refine ⟨_, rfl, ?_⟩
  rw [choose_Check.l0, if_pos (by omega), if_pos (by omega), if_pos (by omega)]
  generalize rd_T34 l (i : Int) = c
  by_cases hv : validC c
  · rw [decide_eq_true hv]
    unfold validC at hv
    repeat' split
    all_goals first | rfl | (exfalso; omega) | (congr 1; simp; omega)
  · rw [decide_eq_false hv]
    unfold validC at hv
    repeat' split
    all_goals first | rfl | (exfalso; omega) | (congr 1; simp; omega)
theorem cho_chk (l : List S34) (hn : l.length ≤ 12) : ∀ (d i k : Nat), i + d = l.length → (d + 1) * 20 ≤ k → choose_Check.l0 k l l l.length i = some (chk l d i) := by
  intro d
  induction d with
  | zero =>
    intro i k hi hk
    obtain ⟨k, rfl⟩ : ∃ k', k = k' + 1 := ⟨k - 1, by omega⟩
    rw [choose_Check.l0, if_neg (by omega), chk]
  | succ d ih =>
    intro i k hi hk
    obtain ⟨k, rfl⟩ : ∃ k', k = k' + 2 := ⟨k - 2, by omega⟩
    obtain ⟨b, hb, e⟩ := cho_step l i (by omega) (k + 1)
    rw [e, choose_Check.j1, chk, hb]
    by_cases hv : validC (rd_T34 l (i : Int))
    · rw [decide_eq_true hv, if_pos hv, if_neg (by simp), if_pos (by omega), if_pos (by omega), Option.bind_some, Int.toNat_natCast]
      exact cho_in l i (by omega) hn _ ((d + 1) * 20) _ _ _ _ (fun k' hk' => ih (i + 1) k' (by omega) hk') i 0 k (by omega) (by omega)
    · rw [decide_eq_false hv, if_neg hv, if_pos (by simp)]
/-- What both checks answer. -/
def chkAll (l : List S34) : Int := if (l.length : Int) > 12 then 6 else chk l l.length 0
theorem check_ref (l : List S34) (k : Nat) (hk : 300 ≤ k) : timesyncref24_Check.f k l = some (chkAll l) := by
  unfold timesyncref24_Check.f chkAll
  by_cases h : (l.length : Int) > 12
  · rw [if_pos h, if_pos h]
  · rw [if_neg h, if_neg h]
    exact ref_chk l (by omega) l.length 0 k (by omega) (by omega)
theorem check_cho (l : List S34) (k : Nat) (hk : 300 ≤ k) : choose_Check.f k l = some (chkAll l) := by
  unfold choose_Check.f chkAll
  by_cases h : (l.length : Int) > 12
  · rw [if_pos h, if_pos h]
  · rw [if_neg h, if_neg h]
    exact cho_chk l (by omega) l.length 0 k (by omega) (by omega)
theorem chk_valid (l : List S34) : ∀ (d i : Nat), chk l d i = 0 → ∀ t, i ≤ t → t < i + d → validC (rd_T34 l (t : Int)) := by
  intro d
  induction d with
  | zero => intro i _ t h1 h2; omega
  | succ d ih =>
    intro i h t h1 h2
    rw [chk] at h
    split at h
    · rename_i hv
      split at h
      · cases h
      · rcases Nat.eq_or_lt_of_le h1 with rfl | h3
        · exact hv
        · exact ih (i + 1) h t h3 (by omega)
    · cases h
theorem all_valid {l : List S34} (h : chkAll l = 0) : l.length ≤ 12 ∧ ∀ c ∈ l, validC c := by
  unfold chkAll at h
  split at h
  · cases h
  · rename_i hn
    refine ⟨by omega, fun c hc => ?_⟩
    obtain ⟨t, ht, rfl⟩ := List.mem_iff_getElem.1 hc
    have := chk_valid l l.length 0 h t (by omega) (by omega)
    rwa [rd_get l t ht] at this
/-- The weight of a candidate. -/
def wt (c : S34) : Int := mx 1 (1073741824 / (c.f2 / 1000 + 1))
theorem wt_range (c : S34) (h : validC c) : 1 ≤ wt c ∧ wt c ≤ 1073741824 := by
  unfold validC at h
  unfold wt mx
  have h1 : 0 ≤ c.f2 / 1000 := Int.ediv_nonneg (by omega) (by omega)
  have h2 : 1073741824 / (c.f2 / 1000 + 1) ≤ 1073741824 := Int.ediv_le_self _ (by omega)
  have h3 : 0 ≤ 1073741824 / (c.f2 / 1000 + 1) := Int.ediv_nonneg (by omega) (by omega)
  split <;> omega
theorem wt_div (c : S34) (h : validC c) : wrap64 (wrap64 (Int.tdiv c.f2 1000) + 1) = c.f2 / 1000 + 1 ∧ wrap64 ((1073741824 : Int) / (c.f2 / 1000 + 1)) = 1073741824 / (c.f2 / 1000 + 1) := by
  unfold validC at h
  have h1 : 0 ≤ c.f2 / 1000 := Int.ediv_nonneg (by omega) (by omega)
  have h2 : 1073741824 / (c.f2 / 1000 + 1) ≤ 1073741824 := Int.ediv_le_self _ (by omega)
  have h3 : 0 ≤ 1073741824 / (c.f2 / 1000 + 1) := Int.ediv_nonneg (by omega) (by omega)
  rw [Int.tdiv_eq_ediv_of_nonneg (by omega)]
  generalize 1073741824 / (c.f2 / 1000 + 1) = z at h2 h3 ⊢
  constructor
  · unfold wrap64; omega
  · unfold wrap64; omega
theorem weight_ok (c : S34) (h : validC c) : combine_weight.f c.f0 c.f1 c.f2 c.f3 c.f4 = some (wt c) := by
  have h1 : 0 ≤ c.f2 / 1000 := Int.ediv_nonneg (by unfold validC at h; omega) (by omega)
  unfold combine_weight.f
  rw [(wt_div c h).1, (wt_div c h).2, if_neg (by omega)]
  rfl
end Go.Proofs.Ytgbajigcmadofaa.P
