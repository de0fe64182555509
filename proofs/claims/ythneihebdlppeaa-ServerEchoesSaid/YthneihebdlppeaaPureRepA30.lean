/- What Reply answers. -/
import Derived.Test.YthneihebdlppeaaPureEnc
import Derived.Test.YthneihebdlppeaaBPure
import Derived.Test.YthneihebdlppeaaPx15
namespace Go.Proofs.Ythneihebdlppeaa.P
open Go.RowKit Go.Proofs.YthneihebdlppeaaW.PrintWords Go.Proofs.YthneihebdlppeaaW.PrintLast Go.Proofs.YthneihebdlppeaaW.PrintMore Go.Proofs.Ythneihebdlppeaa.Rd

/-- A short timestamp, rounded up. -/
def shortV (d : Int) : Int := (d * 65536 + 999999999) / 1000000000
def shortR (d : Int) : Int × Int := if shortV d > 4294967295 then (0, 3) else (shortV d % 4294967296, 0)
theorem short_ok (d : Int) (h0 : 0 ≤ d) (h1 : d ≤ 9007199254740992) : stamp_Short.f d = some (shortR d) := by
  have e1 : wrap64 (-d) = -d := by unfold wrap64; omega
  have em : B.mulDiv (-d) 65536 1000000000 = (-(shortV d), true) := by
    unfold B.mulDiv B.floorQ shortV
    rw [if_neg (by omega), if_pos (by omega), B.fitI_yes (by omega) (by omega)]
    congr 1
    omega
  unfold stamp_Short.f fixed_MulDiv.f
  rw [if_neg (by omega), e1, if_pos ⟨by unfold B.isI64; omega, by unfold B.isI64; omega, by unfold B.isI64; omega⟩, em]
  simp only [Option.bind_some, if_true, Int.neg_neg]
  have hv : 0 ≤ shortV d ∧ shortV d ≤ 9223372036854775807 := by unfold shortV; omega
  have e2 : wrap64 (shortV d) = shortV d := by unfold wrap64; omega
  rw [e2]
  unfold shortR
  split <;> rfl
def rootOk (s d p : Int) : Prop := 1 ≤ s ∧ s ≤ 16 ∧ 0 ≤ d ∧ d ≤ 9007199254740992 ∧ 0 ≤ p ∧ p ≤ 9007199254740992
instance (s d p : Int) : Decidable (rootOk s d p) := by unfold rootOk; infer_instance
theorem root_check (s d p i : Int) : root_Check.f s d p i = some (if rootOk s d p then 0 else 3) := by
  by_cases hv : rootOk s d p
  all_goals
    first | rw [if_pos hv] | rw [if_neg hv]
    unfold rootOk at hv
    unfold root_Check.f root_isSpan.f
    by_cases h1 : s < 1
    · rw [if_pos h1]; try (first | rfl | (exfalso; omega))
    rw [if_neg h1]
    by_cases h2 : s > 16
    · rw [if_pos h2]; try (first | rfl | (exfalso; omega))
    rw [if_neg h2]
    by_cases h3 : d ≥ 0 <;> by_cases h4 : d ≤ 9007199254740992 <;> by_cases h5 : p ≥ 0 <;> by_cases h6 : p ≤ 9007199254740992 <;> simp [h3, h4, h5, h6] <;> omega
/-- The fields of a root. -/
def fieldsV (s d p : Int) : Int × Int × Int :=
  if rootOk s d p then if (shortR d).2 = 0 ∧ (shortR p).2 = 0 then ((shortR d).1, (shortR p).1, 0) else (0, 0, 3) else (0, 0, 3)
theorem short_two (d : Int) : (shortR d).2 = 0 ∨ (shortR d).2 = 3 := by unfold shortR; split <;> simp
theorem fields_ok (s d p i : Int) : root_Fields.f s d p i = some (fieldsV s d p) := by
  unfold root_Fields.f fieldsV
  rw [root_check, Option.bind_some]
  by_cases hv : rootOk s d p
  · rw [if_pos hv, if_pos rfl, if_pos hv]
    unfold rootOk at hv
    rw [short_ok d (by omega) (by omega), short_ok p (by omega) (by omega)]
    simp only [Option.bind_some]
    by_cases h1 : (shortR d).2 = 0 <;> by_cases h2 : (shortR p).2 = 0 <;> simp [h1, h2]
  · rw [if_neg hv, if_neg (by omega), if_neg hv]
theorem reqcheck_ok (L V M S P C d1 d2 d3 d4 d5 d6 d7 : Int) : server_request_check.f L V M S P C d1 d2 d3 d4 d5 d6 d7 = some (if valid19 L V M S P C then if M = 3 then 0 else 8 else 2) := by
  unfold server_request_check.f
  rw [check_spec, Option.bind_some]
  by_cases hv : valid19 L V M S P C
  · rw [if_pos hv, if_pos rfl, if_pos hv]
    split <;> rfl
  · rw [if_neg hv, if_neg (by omega), if_neg hv]
/-- What both replies answer. -/
def replyV (V M P d7 rec xmt ref s d p i leap prec : Int) (valid : Bool) : Int × Int × Int × Int × Int × Int × Int × Int × Int × Int × Int × Int × Int × Int :=
  if valid = false ∨ ¬ rootOk s d p ∨ leap < 0 ∨ leap > 3 ∨ prec < -128 ∨ prec > 127 then (0, 0, 0, 0, 0, 0, 0, 0, 0, 0, 0, 0, 0, 2)
  else if M = 3 then
    if (fieldsV s d p).2.2 = 0 then
      if s = 16 then (3, V, 4, 0, P, prec, (fieldsV s d p).1, (fieldsV s d p).2.1, i, ref, d7, rec, xmt, 0)
      else (leap, V, 4, s, P, prec, (fieldsV s d p).1, (fieldsV s d p).2.1, i, ref, d7, rec, xmt, 0)
    else (0, 0, 0, 0, 0, 0, 0, 0, 0, 0, 0, 0, 0, (fieldsV s d p).2.2)
  else (0, 0, 0, 0, 0, 0, 0, 0, 0, 0, 0, 0, 0, 8)
theorem rep_j0 (k : Nat) (x1 x2 x3 x5 x6 x17 : Int) (b : Bool) (L V M S P C d1 d2 d3 d4 d5 d6 d7 s d p i : Int) (hx : x17 = 0 ∨ x17 = 8) (hm : x17 = 0 ↔ M = 3) (hb : b = true ↔ ¬ rootOk s d p ∨ x5 < 0 ∨ x5 > 3 ∨ x6 < -128 ∨ x6 > 127) :
    server_Reply.j0 (k + 1) x1 x2 x3 x5 x6 x17 b L V M S P C d1 d2 d3 d4 d5 d6 d7 s d p i = some (replyV V M P d7 x1 x2 x3 s d p i x5 x6 true) := by
  rw [server_Reply.j0]
  unfold replyV
  by_cases h : b = true
  · rw [if_pos h, if_pos (.inr (hb.1 h))]
  · have h' : ¬ (¬ rootOk s d p ∨ x5 < 0 ∨ x5 > 3 ∨ x6 < -128 ∨ x6 > 127) := fun hh => h (hb.2 hh)
    rw [if_neg h, if_neg (fun hh => hh.elim (fun e => Bool.noConfusion e) h' : ¬ (true = false ∨ ¬ rootOk s d p ∨ x5 < 0 ∨ x5 > 3 ∨ x6 < -128 ∨ x6 > 127))]
    have hr : rootOk s d p := by
      by_cases hr : rootOk s d p
      · exact hr
      · exact absurd (.inl hr) h'
    unfold rootOk at hr
    by_cases h3 : M = 3
    · rw [if_pos (hm.2 h3), if_pos h3, fields_ok, Option.bind_some]
      by_cases hf : (fieldsV s d p).2.2 = 0
      · rw [if_pos hf, if_pos hf]
        by_cases hs : s = 16
        · rw [if_pos hs, if_pos hs]
        · rw [if_neg hs, if_neg hs, if_neg (by omega)]
      · rw [if_neg hf, if_neg hf]
    · rw [if_neg (fun hh => h3 (hm.1 hh)), if_neg h3]
      have : x17 = 8 := by
        rcases hx with hx | hx
        · exact absurd (hm.1 hx) h3
        · exact hx
      rw [this]
theorem reply_ok (k : Nat) (L V M S P C d1 d2 d3 d4 d5 d6 d7 x1 x2 x3 s d p i x5 x6 : Int) :
    server_Reply.f (k + 1) L V M S P C d1 d2 d3 d4 d5 d6 d7 x1 x2 x3 s d p i x5 x6 = some (replyV V M P d7 x1 x2 x3 s d p i x5 x6 (decide (valid19 L V M S P C))) := by
  unfold server_Reply.f
  rw [reqcheck_ok, Option.bind_some]
  by_cases hv : valid19 L V M S P C
  · rw [if_pos hv, decide_eq_true hv, root_check, Option.bind_some]
    have hx : (if M = 3 then (0 : Int) else 8) = 0 ∨ (if M = 3 then (0 : Int) else 8) = 8 := by split <;> simp
    have hm : (if M = 3 then (0 : Int) else 8) = 0 ↔ M = 3 := by split <;> simp_all
    have h2 : ¬ (if M = 3 then (0 : Int) else 8) = 2 := by split <;> omega
    rw [if_neg h2]
    by_cases hr : rootOk s d p
    · rw [if_pos hr, if_pos rfl]
      by_cases a1 : x5 < 0
      · rw [if_pos a1, rep_j0 k _ _ _ _ _ _ _ _ _ _ _ _ _ _ _ _ _ _ _ _ _ _ _ _ hx hm (by simp [a1])]
      rw [if_neg a1]
      by_cases a2 : x5 > 3
      · rw [if_pos a2, rep_j0 k _ _ _ _ _ _ _ _ _ _ _ _ _ _ _ _ _ _ _ _ _ _ _ _ hx hm (by simp [a2])]
      rw [if_neg a2]
      by_cases a3 : x6 < -128
      · rw [if_pos a3, rep_j0 k _ _ _ _ _ _ _ _ _ _ _ _ _ _ _ _ _ _ _ _ _ _ _ _ hx hm (by simp [a3])]
      rw [if_neg a3, rep_j0 k _ _ _ _ _ _ _ _ _ _ _ _ _ _ _ _ _ _ _ _ _ _ _ _ hx hm (by simp [hr, a1, a2, a3])]
    · rw [if_neg hr, if_neg (by omega), rep_j0 k _ _ _ _ _ _ _ _ _ _ _ _ _ _ _ _ _ _ _ _ _ _ _ _ hx hm (by simp [hr])]
  · rw [if_neg hv, if_pos rfl, decide_eq_false hv, server_Reply.j0, if_pos rfl]
    unfold replyV
    rw [if_pos (.inl rfl)]
end Go.Proofs.Ythneihebdlppeaa.P
