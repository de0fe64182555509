/- Extension fields: their bytes, and what Append answers. -/
import Derived.Test.YthneihebdlppeaaPureAccG
import Derived.Test.YthneihebdlppeaaPx39
namespace Go.Proofs.Ythneihebdlppeaa.P
open Go.RowKit Go.Proofs.YthneihebdlppeaaW.PrintWords Go.Proofs.YthneihebdlppeaaW.PrintLast Go.Proofs.YthneihebdlppeaaW.PrintMore Go.Proofs.Ythneihebdlppeaa.Rd

abbrev SE := S50
def okE (x : SE) : Prop := 0 ≤ x.f0 ∧ x.f0 ≤ 65535 ∧ 12 ≤ x.f1.length ∧ x.f1.length ≤ 256 ∧ x.f1.length % 4 = 0
instance (x : SE) : Decidable (okE x) := by unfold okE; infer_instance
def encE (x : SE) : List Int := be x.f0 2 ++ (be ((4 + x.f1.length : Nat) : Int) 2 ++ x.f1)
def flatE (l : List SE) : List Int := l.flatMap encE
theorem encE_len (x : SE) : (encE x).length = 4 + x.f1.length := by unfold encE; simp only [List.length_append, be_length]; omega
theorem flatE_cons (x : SE) (l : List SE) : flatE (x :: l) = encE x ++ flatE l := by unfold flatE; rw [List.flatMap_cons]
theorem flatE_append (a b : List SE) : flatE (a ++ b) = flatE a ++ flatE b := by unfold flatE; rw [List.flatMap_append]
theorem flatE_len : ∀ (l : List SE), (∀ x ∈ l, okE x) → (flatE l).length ≤ 260 * l.length
  | [], _ => by simp [flatE]
  | x :: l, h => by
    have h1 := flatE_len l (fun y hy => h y (List.mem_cons_of_mem _ hy))
    have h2 := h x List.mem_cons_self
    unfold okE at h2
    rw [flatE_cons, List.length_append, encE_len, List.length_cons]
    omega
theorem ext_check (x : SE) (k : Nat) : ∃ e, ext_Check.f (k + 1) x.f0 x.f1 = some e ∧ (e = 0 ↔ okE x) := by
  unfold ext_Check.f okE
  by_cases h1 : x.f0 < 0
  · rw [if_pos h1, ext_Check.j0, if_pos rfl]; exact ⟨3, rfl, by constructor <;> intro h <;> omega⟩
  · rw [if_neg h1]
    by_cases h2 : x.f0 > 65535
    · rw [decide_eq_true h2, ext_Check.j0, if_pos rfl]; exact ⟨3, rfl, by constructor <;> intro h <;> omega⟩
    · rw [decide_eq_false h2, ext_Check.j0, if_neg (by decide)]
      by_cases h3 : (x.f1.length : Int) < 12
      · rw [if_pos h3]; exact ⟨7, rfl, by constructor <;> intro h <;> omega⟩
      · rw [if_neg h3]
        by_cases h4 : (x.f1.length : Int) > 256
        · rw [if_pos h4]; exact ⟨7, rfl, by constructor <;> intro h <;> omega⟩
        · rw [if_neg h4]
          by_cases h5 : (x.f1.length : Int) % 4 = 0
          · rw [if_pos h5]; exact ⟨0, rfl, by constructor <;> intro h <;> omega⟩
          · rw [if_neg h5]; exact ⟨7, rfl, by constructor <;> intro h <;> omega⟩
theorem rdE (l : List SE) (i : Nat) (hi : i < l.length) : rd_T50 l (i : Int) = l[i] := by
  unfold rd_T50
  rw [Int.toNat_natCast, List.getD_eq_getElem?_getD, List.getElem?_eq_getElem hi]; rfl
theorem swE (x : Int) (h0 : 0 ≤ x) (h1 : x ≤ 1000000) : wrap64 x = x := by unfold wrap64; omega
theorem uwE (x : Int) (h0 : 0 ≤ x) (h1 : x ≤ 1000000) : IntKind.u64.wrap x = x := by rw [IntKind.wrap_u64]; omega
theorem fitsE (acc : List Int) (n : Int) (h0 : 0 ≤ n) (h1 : n ≤ 65535) (ha : acc.length ≤ 1000000) : wire_Append.f acc n 2 = some (acc ++ be n 2, 0) :=
  app_fits acc n 2 (by decide) (by decide) h0 (Int.lt_of_le_of_lt h1 (by decide)) (Nat.le_trans ha (by decide))
theorem put_loop (l : List SE) (hl : l.length ≤ 16) (ho : ∀ x ∈ l, okE x) : ∀ (d i k : Nat) (acc : List Int), i + d = l.length → d < k → acc.length ≤ 300 * i → ext_Append.l1 k acc l l.length i = some (acc ++ flatE (l.drop i), 0) := by
  intro d
  induction d with
  | zero =>
    intro i k acc hi hk ha
    obtain ⟨k, rfl⟩ : ∃ k', k = k' + 1 := ⟨k - 1, by omega⟩
    rw [ext_Append.l1, if_neg (by omega), List.drop_of_length_le (by omega)]
    simp [flatE]
  | succ d ih =>
    intro i k acc hi hk ha
    obtain ⟨k, rfl⟩ : ∃ k', k = k' + 1 := ⟨k - 1, by omega⟩
    have hil : i < l.length := by omega
    have hx := ho _ (List.getElem_mem hil)
    unfold okE at hx
    have e2 : wrap64 ((i : Int) + 1) = ((i + 1 : Nat) : Int) := (swE _ (by omega) (by omega)).trans (by omega)
    have c1 : (i : Int) < (l.length : Int) := by omega
    have c2 : (0 : Int) ≤ (i : Int) := by omega
    have hb1 := be_length l[i].f0 2
    have hb2 := be_length ((4 + l[i].f1.length : Nat) : Int) 2
    have f1 := fitsE acc (IntKind.u64.wrap l[i].f0) (by rw [uwE _ (by omega) (by omega)]; omega) (by rw [uwE _ (by omega) (by omega)]; omega) (by omega)
    rw [uwE _ (by omega) (by omega)] at f1
    have e3 : IntKind.u64.wrap (wrap64 (4 + (l[i].f1.length : Int))) = ((4 + l[i].f1.length : Nat) : Int) := by rw [swE _ (by omega) (by omega), uwE _ (by omega) (by omega)]; omega
    have f2 := fitsE (acc ++ be l[i].f0 2) ((4 + l[i].f1.length : Nat) : Int) (by omega) (by omega) (by rw [List.length_append, hb1]; omega)
    have e4 : IntKind.u64.wrap l[i].f0 = l[i].f0 := uwE _ (by omega) (by omega)
    have hlen : ((acc ++ be l[i].f0 2) ++ be ((4 + l[i].f1.length : Nat) : Int) 2).length + l[i].f1.length < 140737488355328 := by rw [List.length_append, List.length_append, hb1, hb2]; omega
    rw [ext_Append.l1, if_pos c1, if_pos c2, if_pos c1, rdE l i hil, e4, f1, Option.bind_some, e3, f2, Option.bind_some, if_pos hlen, e2, ih (i + 1) k _ (by omega) (by omega) (by rw [List.length_append, List.length_append, List.length_append, hb1, hb2]; omega), List.drop_eq_getElem_cons hil, flatE_cons]
    unfold encE
    simp only [List.append_assoc]
theorem chk_loop (l : List SE) (hl : l.length ≤ 16) : ∀ (d i k : Nat), i + d = l.length → d + 40 < k → (∀ x ∈ l.take i, okE x) → ∃ r e, ext_Append.l0 k [] l l l.length i = some (r, e) ∧ (e = 0 → (∀ x ∈ l, okE x) ∧ r = flatE l) := by
  intro d
  induction d with
  | zero =>
    intro i k hi hk ho
    obtain ⟨k, rfl⟩ : ∃ k', k = k' + 1 := ⟨k - 1, by omega⟩
    rw [List.take_of_length_le (by omega)] at ho
    have h := put_loop l hl ho l.length 0 k [] (by omega) (by omega) (by simp)
    rw [List.drop_zero, List.nil_append] at h
    have c1 : ¬ ((i : Int) < (l.length : Int)) := by omega
    refine ⟨flatE l, 0, ?_, fun _ => ⟨ho, rfl⟩⟩
    rw [ext_Append.l0, if_neg c1, Option.bind_some, if_pos (by simp), List.nil_append]
    exact h
  | succ d ih =>
    intro i k hi hk ho
    obtain ⟨k, rfl⟩ : ∃ k', k = k' + 1 := ⟨k - 1, by omega⟩
    have hil : i < l.length := by omega
    have e2 : wrap64 ((i : Int) + 1) = ((i + 1 : Nat) : Int) := (swE _ (by omega) (by omega)).trans (by omega)
    have c1 : (i : Int) < (l.length : Int) := by omega
    have c2 : (0 : Int) ≤ (i : Int) := by omega
    obtain ⟨k', rfl⟩ : ∃ k', k = k' + 1 := ⟨k - 1, by omega⟩
    obtain ⟨e, he, hz⟩ := ext_check l[i] k'
    rw [ext_Append.l0, if_pos c1, if_pos c2, if_pos c1, rdE l i hil, he, Option.bind_some]
    by_cases h0 : e = 0
    · rw [if_pos h0, e2]
      refine ih (i + 1) (k' + 1) (by omega) (by omega) (fun x hx => ?_)
      rw [List.take_succ_eq_append_getElem hil, List.mem_append, List.mem_singleton] at hx
      rcases hx with hx | rfl
      · exact ho x hx
      · exact hz.1 h0
    · rw [if_neg h0]
      exact ⟨_, _, rfl, fun h => absurd h h0⟩
/-- Append of at most 16 fields to nothing. -/
theorem append_eq (l : List SE) (hl : l.length ≤ 16) (k : Nat) (hk : 60 < k) : ∃ r e, ext_Append.f k [] l = some (r, e) ∧ (e = 0 → (∀ x ∈ l, okE x) ∧ r = flatE l) := by
  unfold ext_Append.f
  rw [if_neg (by omega)]
  exact chk_loop l hl l.length 0 k (by omega) (by omega) (by simp)
end Go.Proofs.Ythneihebdlppeaa.P
