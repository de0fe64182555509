/- The law ServerEchoes over numbers. -/
import Derived.Test.YthneihebdlppeaaQServerEchoes
import Derived.Test.YthneihebdlppeaaPureRepA30
import Derived.Test.YthneihebdlppeaaPureAwk30
namespace Go.Proofs.Ythneihebdlppeaa.Pure
set_option linter.unusedVariables false
open Go.RowKit Go.Proofs.Ythneihebdlppeaa.P Go.Proofs.YthneihebdlppeaaW.PrintWords Go.Proofs.YthneihebdlppeaaW.PrintLast Go.Proofs.YthneihebdlppeaaW.PrintMore Go.Proofs.Ythneihebdlppeaa.Rd

theorem synced_eq (L V M S P C d1 d2 d3 d4 d5 d6 d7 : Int) : ntpmsg_Synced.f L V M S P C d1 d2 d3 d4 d5 d6 d7 = some (decide (L ≠ 3 ∧ 1 ≤ S ∧ S ≤ 15)) := by
  unfold ntpmsg_Synced.f
  by_cases h : L = 3
  · rw [if_pos h]; simp [h]
  · rw [if_neg h, in_eq, Option.bind_some]; simp [h]
theorem short_range (d : Int) (h0 : 0 ≤ d) : (shortR d).2 = 0 → 0 ≤ (shortR d).1 ∧ (shortR d).1 < 4294967296 := by
  unfold shortR
  split <;> simp <;> omega
/-- The end of the law, at a header whose fields are known. -/
theorem echo_end (k : Nat) (hk : 100 ≤ k) (leap L V M P S C d1 d2 d3 d4 d5 d6 d7 a0 a3 a5 a6 a7 a8 a9 a10 a11 t2 s d p i : Int) (hs1 : 1 ≤ s) (hs2 : s ≤ 16) (hl0 : 0 ≤ leap) (hl3 : leap ≤ 3)
    (hx : (s = 16 ∧ L = 3 ∧ S = 0) ∨ (¬ s = 16 ∧ L = leap ∧ S = s)) :
    timesynclaw30_ServerEchoes.j0 (k + 1) leap false a0 V 3 a3 P a5 a6 a7 a8 a9 a10 a11 d5 d6 d7 t2 s d p i L V 4 S P C d1 d2 d3 d4 d5 d6 d7 = some true := by
  rw [timesynclaw30_ServerEchoes.j0, if_neg (by decide), if_pos rfl, if_pos rfl, if_pos rfl, if_pos rfl, if_pos rfl, if_pos rfl, if_pos rfl, synced_eq, Option.bind_some, awk30 k hk]
  rcases hx with ⟨rfl, rfl, rfl⟩ | ⟨h16, rfl, rfl⟩
  · by_cases h3 : leap = 3
    · rw [if_pos h3]; simp
    · rw [if_neg h3]; simp
  · by_cases h3 : L = 3
    · rw [if_pos h3]; simp [h3]
    · rw [if_neg h3]
      have : decide (L ≠ 3 ∧ 1 ≤ S ∧ S ≤ 15) = true := decide_eq_true ⟨h3, hs1, by omega⟩
      rw [this, if_pos rfl, if_pos (by omega), Option.bind_some, if_pos rfl]
theorem ServerEchoes : timesynclaw30_ServerEchoes.Pure := by
  intro x t r leap prec hx ht hr hl hp
  obtain ⟨h0, h1, h2, h3, h4, h5, h6, h7, h8, h9, h10, h11, h12⟩ := hx
  obtain ⟨t0, t1, t2⟩ := ht
  obtain ⟨r0, r1, r2, r3⟩ := hr
  simp [Lit.wf, IntKind.bits, IntKind.signed, IntKind.min, IntKind.max] at h12 t0 t1 t2 r3
  refine ⟨201, ?_⟩
  have hrep := reply_ok 200 x.f0 x.f1 x.f2 x.f3 x.f4 x.f5 x.f6 x.f7 x.f8 x.f9 x.f10 x.f11 x.f12 t.f0 t.f1 t.f2 r.f0 r.f1 r.f2 r.f3 leap prec
  unfold timesynclaw30_ServerEchoes.f
  rw [hrep, Option.bind_some]
  clear hrep
  have hawk := awk30 201 (by decide)
  unfold replyV
  by_cases c1 : decide (valid19 x.f0 x.f1 x.f2 x.f3 x.f4 x.f5) = false ∨ ¬ rootOk r.f0 r.f1 r.f2 ∨ leap < 0 ∨ leap > 3 ∨ prec < -128 ∨ prec > 127
  · rw [if_pos c1, hawk]
    rfl
  · rw [if_neg c1]
    by_cases c2 : x.f2 = 3
    · rw [if_pos c2]
      by_cases c3 : (fieldsV r.f0 r.f1 r.f2).2.2 = 0
      · rw [if_pos c3]
        have hv : valid19 x.f0 x.f1 x.f2 x.f3 x.f4 x.f5 := by
          by_cases hv : valid19 x.f0 x.f1 x.f2 x.f3 x.f4 x.f5
          · exact hv
          · exact absurd (.inl (decide_eq_false hv)) c1
        have hro : rootOk r.f0 r.f1 r.f2 := by
          by_cases hro : rootOk r.f0 r.f1 r.f2
          · exact hro
          · exact absurd (.inr (.inl hro)) c1
        have hlp : 0 ≤ leap ∧ leap ≤ 3 ∧ -128 ≤ prec ∧ prec ≤ 127 := by
          refine ⟨?_, ?_, ?_, ?_⟩
          · by_cases h : leap < 0
            · exact absurd (.inr (.inr (.inl h))) c1
            · omega
          · by_cases h : leap > 3
            · exact absurd (.inr (.inr (.inr (.inl h)))) c1
            · omega
          · by_cases h : prec < -128
            · exact absurd (.inr (.inr (.inr (.inr (.inl h))))) c1
            · omega
          · by_cases h : prec > 127
            · exact absurd (.inr (.inr (.inr (.inr (.inr h))))) c1
            · omega
        have hd : 0 ≤ (fieldsV r.f0 r.f1 r.f2).1 ∧ (fieldsV r.f0 r.f1 r.f2).1 < 4294967296 ∧ 0 ≤ (fieldsV r.f0 r.f1 r.f2).2.1 ∧ (fieldsV r.f0 r.f1 r.f2).2.1 < 4294967296 := by
          unfold fieldsV at c3 ⊢
          rw [if_pos hro] at c3 ⊢
          unfold rootOk at hro
          by_cases hss : (shortR r.f1).2 = 0 ∧ (shortR r.f2).2 = 0
          · rw [if_pos hss]
            have a := short_range r.f1 (by omega) hss.1
            have b := short_range r.f2 (by omega) hss.2
            exact ⟨a.1, a.2, b.1, b.2⟩
          · rw [if_neg hss] at c3
            exact absurd c3 (by decide)
        generalize (fieldsV r.f0 r.f1 r.f2).1 = D at hd
        generalize (fieldsV r.f0 r.f1 r.f2).2.1 = E at hd
        unfold valid19 at hv
        unfold rootOk at hro
        have key : ∀ (L S : Int), 0 ≤ L ∧ L ≤ 3 → 0 ≤ S ∧ S ≤ 255 → valid19 L x.f1 4 S x.f4 prec := fun L S a b => by unfold valid19; omega
        by_cases c4 : r.f0 = 16
        · rw [if_pos c4]
          have hvv := key 3 0 (by omega) (by omega)
          have henc := enc_ok 201 (by omega) 3 x.f1 4 0 x.f4 prec D E r.f3 t.f2 x.f12 t.f0 t.f1 hvv (by omega) (by omega) (by omega) (by omega) (by omega) (by omega) (by omega)
          have hdec := dec_hdr hvv (d1 := D) (d2 := E) (d3 := r.f3) (d4 := t.f2) (d5 := x.f12) (d6 := t.f0) (d7 := t.f1) (by omega) (by omega) (by omega) (by omega) (by omega) (by omega) (by omega) [] (fun y hy => by cases hy) (by simp)
          rw [List.append_nil] at hdec
          have hend := echo_end 200 (by decide) leap 3 x.f1 4 x.f4 0 prec D E r.f3 t.f2 x.f12 t.f0 t.f1 x.f0 x.f3 x.f5 x.f6 x.f7 x.f8 x.f9 x.f10 x.f11 t.f2 r.f0 r.f1 r.f2 r.f3 (by omega) (by omega) hlp.1 hlp.2.1 (.inl ⟨c4, rfl, rfl⟩)
          simp only [if_true]
          rw [henc, Option.bind_some, hdec, Option.bind_some, check_spec, if_pos hvv, Option.bind_some]
          simp only [if_true, beq_self_eq_true, Bool.not_true, Bool.or_self, Bool.false_eq_true, if_false, List.length_nil]
          rw [c2]
          exact hend
        · rw [if_neg c4]
          have hvv := key leap r.f0 ⟨hlp.1, hlp.2.1⟩ (by omega)
          have henc := enc_ok 201 (by omega) leap x.f1 4 r.f0 x.f4 prec D E r.f3 t.f2 x.f12 t.f0 t.f1 hvv (by omega) (by omega) (by omega) (by omega) (by omega) (by omega) (by omega)
          have hdec := dec_hdr hvv (d1 := D) (d2 := E) (d3 := r.f3) (d4 := t.f2) (d5 := x.f12) (d6 := t.f0) (d7 := t.f1) (by omega) (by omega) (by omega) (by omega) (by omega) (by omega) (by omega) [] (fun y hy => by cases hy) (by simp)
          rw [List.append_nil] at hdec
          have hend := echo_end 200 (by decide) leap leap x.f1 4 x.f4 r.f0 prec D E r.f3 t.f2 x.f12 t.f0 t.f1 x.f0 x.f3 x.f5 x.f6 x.f7 x.f8 x.f9 x.f10 x.f11 t.f2 r.f0 r.f1 r.f2 r.f3 (by omega) (by omega) hlp.1 hlp.2.1 (.inr ⟨c4, rfl, rfl⟩)
          simp only [if_true]
          rw [henc, Option.bind_some, hdec, Option.bind_some, check_spec, if_pos hvv, Option.bind_some]
          simp only [if_true, beq_self_eq_true, Bool.not_true, Bool.or_self, Bool.false_eq_true, if_false, List.length_nil]
          rw [c2]
          exact hend
      · rw [if_neg c3]
        have h3 : (fieldsV r.f0 r.f1 r.f2).2.2 = 3 := by
          unfold fieldsV at c3 ⊢
          split at c3
          · split at c3
            · exact absurd rfl c3
            · rename_i h5 h6
              rw [if_pos h5, if_neg h6]
          · rename_i h5
            rw [if_neg h5]
        rw [h3, hawk]
        rfl
    · rw [if_neg c2, hawk]
      rfl
end Go.Proofs.Ythneihebdlppeaa.Pure
