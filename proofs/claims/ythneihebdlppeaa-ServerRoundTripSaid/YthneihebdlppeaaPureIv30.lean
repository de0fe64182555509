/- What Find, Interval and Field answer, as plain functions on lists. -/
import Derived.Test.YthneihebdlppeaaXInt30
import Derived.Test.YthneihebdlppeaaPureAccG
import Derived.Test.YthneihebdlppeaaPx19
namespace Go.Proofs.Ythneihebdlppeaa.P
open Go.RowKit Go.Proofs.YthneihebdlppeaaW.PrintWords Go.Proofs.YthneihebdlppeaaW.PrintLast Go.Proofs.YthneihebdlppeaaW.PrintMore Go.Proofs.Ythneihebdlppeaa.Rd

def chkV (lo hi : Int) : Prop := lo ≤ hi ∧ -8000000000000000000 ≤ lo ∧ hi ≤ 8000000000000000000
instance (lo hi : Int) : Decidable (chkV lo hi) := by unfold chkV; infer_instance
theorem drift_chk (lo hi : Int) : drift_Check.f lo hi = some (if chkV lo hi then 0 else 3) := by
  by_cases h : chkV lo hi
  all_goals
    first | rw [if_pos h] | rw [if_neg h]
    unfold chkV at h
    unfold drift_Check.f
    repeat' split
    all_goals first | rfl | (exfalso; omega)
def isIv (x : S50) : Bool := decide (x.f0 = 28929)
def findV (l : List S50) : List Int × Bool := match l.find? isIv with | some x => (x.f1, true) | none => ([], false)
def readV (b : List Int) : Int × Int × Int := if b.length = 16 then if chkV (ivLo b) (ivHi b) then (ivLo b, ivHi b, 0) else (0, 0, 2) else (0, 0, 7)
def ivV (l : List S50) : Int × Int × Int := match l.find? isIv with | some x => readV x.f1 | none => (0, 0, 11)
theorem rd50 (l : List S50) (i : Nat) (hi : i < l.length) : rd_T50 l (i : Int) = l[i] := by
  unfold rd_T50
  rw [Int.toNat_natCast, List.getD_eq_getElem?_getD, List.getElem?_eq_getElem hi]; rfl
theorem sw30 (x : Int) (h0 : 0 ≤ x) (h1 : x ≤ 9223372036854775807) : wrap64 x = x := by unfold wrap64; omega
theorem find_loop (l : List S50) (hl : l.length ≤ 140737488355328) (hs : ∀ x ∈ l, x.f1.length < 140737488355328) : ∀ (d i k : Nat), i + d = l.length → d < k → ext_Find.l0 k 28929 l l.length i = some (findV (l.drop i)) := by
  intro d
  induction d with
  | zero =>
    intro i k hi hk
    obtain ⟨k, rfl⟩ : ∃ k', k = k' + 1 := ⟨k - 1, by omega⟩
    rw [ext_Find.l0, if_neg (by omega), List.drop_of_length_le (by omega)]
    rfl
  | succ d ih =>
    intro i k hi hk
    obtain ⟨k, rfl⟩ : ∃ k', k = k' + 1 := ⟨k - 1, by omega⟩
    have hil : i < l.length := by omega
    have e2 : wrap64 ((i : Int) + 1) = ((i + 1 : Nat) : Int) := (sw30 _ (by omega) (by omega)).trans (by omega)
    have e3 := hs _ (List.getElem_mem hil)
    rw [ext_Find.l0, if_pos (by omega), if_pos (by omega), if_pos (by omega), rd50 l i hil]
    by_cases h : l[i].f0 = 28929
    · rw [if_pos h, Option.bind_some, if_pos (by simpa using e3)]
      unfold findV
      rw [List.drop_eq_getElem_cons hil, List.find?_cons_of_pos (by simp [isIv, h])]
      rfl
    · rw [if_neg h, e2, ih (i + 1) k (by omega) (by omega)]
      unfold findV
      rw [List.drop_eq_getElem_cons hil, List.find?_cons_of_neg (by simp [isIv, h])]
theorem find_eq (l : List S50) (hl : l.length ≤ 140737488355328) (hs : ∀ x ∈ l, x.f1.length < 140737488355328) (k : Nat) (hk : l.length < k) : ext_Find.f k l 28929 = some (findV l) := by
  unfold ext_Find.f
  have := find_loop l hl hs l.length 0 k (by omega) hk
  rwa [List.drop_zero] at this
theorem interval_eq (l : List S50) (hl : l.length ≤ 140737488355328) (hs : ∀ x ∈ l, x.f1.length < 140737488355328 ∧ bytesOk x.f1) (k : Nat) (hk : l.length < k) : server_Interval.f k l = some (ivV l) := by
  unfold server_Interval.f
  rw [find_eq l hl (fun x hx => (hs x hx).1) k hk, Option.bind_some]
  unfold findV ivV
  cases h : l.find? isIv with
  | none => rfl
  | some x =>
    have hx : x ∈ l := List.mem_of_find?_eq_some h
    simp only [if_true]
    unfold readV
    by_cases hn : x.f1.length = 16
    · rw [if_pos hn, if_pos hn, if_pos (hs x hx).2, drift_chk, Option.bind_some]
      by_cases hc : chkV (ivLo x.f1) (ivHi x.f1)
      · rw [if_pos hc, if_pos rfl, if_pos hc]
      · rw [if_neg hc, if_neg (by omega), if_neg hc]
    · rw [if_neg hn, if_neg hn]
def fieldV (lo hi : Int) : Int × List Int × Int := if chkV lo hi then (28929, be (IntKind.u64.wrap lo) 8 ++ be (IntKind.u64.wrap hi) 8, 0) else (0, [], 2)
theorem u64_in (x : Int) : 0 ≤ IntKind.u64.wrap x ∧ IntKind.u64.wrap x < 18446744073709551616 := by rw [IntKind.wrap_u64]; omega
theorem u64_in2 (x : Int) : IntKind.u64.wrap x < 2 ^ (8 * 8) := (u64_in x).2
theorem field_eq (lo hi : Int) : server_Field.f lo hi = some (fieldV lo hi) := by
  unfold server_Field.f fieldV
  rw [drift_chk, Option.bind_some]
  by_cases h : chkV lo hi
  · have a1 := app_fits [] (IntKind.u64.wrap lo) 8 (by decide) (by decide) (u64_in lo).1 (u64_in2 lo) (by simp)
    have a2 := app_fits (be (IntKind.u64.wrap lo) 8) (IntKind.u64.wrap hi) 8 (by decide) (by decide) (u64_in hi).1 (u64_in2 hi) (by rw [be_length]; decide)
    rw [List.nil_append] at a1
    have e8 : ((8 : Nat) : Int) = 8 := rfl
    rw [e8] at a1 a2
    rw [if_pos h, if_pos rfl, if_pos h, a1, Option.bind_some, a2, Option.bind_some]
  · rw [if_neg h, if_neg (by omega), if_neg h]
theorem upDown8 (x : Int) : upDown x 8 = wrap64 x := by
  unfold upDown
  rw [show (2 : Int) ^ (64 - 8 * 8) = 1 from rfl, Int.mul_one, Int.ediv_one]
  unfold wrap64
  rw [IntKind.wrap_u64]
  omega
end Go.Proofs.Ythneihebdlppeaa.P
