/- The reference's reader: its other calls. -/
import Derived.Test.YteiogfmfcmfpjaaXRr02
namespace Go.Proofs.Yteiogfmfcmfpjaa.Rd
set_option linter.unusedVariables false
set_option linter.unusedSimpArgs false
open Go.RowKit Go.Proofs.YteiogfmfcmfpjaaW.PrintWords Go.Proofs.YteiogfmfcmfpjaaW.PrintLast Go.Proofs.YteiogfmfcmfpjaaW.PrintMore
open Go.Proofs.Yteiogfmfcmfpjaa.P

section
variable {w0 w w' : World} {x : Nat → Prop} {g c : Nat} {rest : List Int} {er : Int} {p : Option Addr}
theorem Sd.left (h : Sd w0 w x g rest er) :
    Calls Try.prog 32 #[.pointer (some ⟨g, 0, none⟩)] w fun e w' => e = .returned (.int .i64 rest.length) ∧ w' = w := by
  obtain ⟨p, c, h⟩ := h
  obtain ⟨c0, c1, f0, f1⟩ := h.cells
  clear h c1 f0 f1
  go_enter Try.func32, Try.ntmps32
  go_wp2
  go_ret
  exact ⟨rfl, rfl⟩
theorem Sd.err (h : Sd w0 w x g rest er) :
    Calls Try.prog 33 #[.pointer (some ⟨g, 0, none⟩)] w fun e w' => e = .returned (.int .i64 er) ∧ w' = w := by
  obtain ⟨p, c, h⟩ := h
  obtain ⟨c0, c1, f0, f1⟩ := h.cells
  clear h c0 f0 f1
  go_enter Try.func33, Try.ntmps33
  go_wp2
  go_ret
  exact ⟨rfl, rfl⟩
theorem Sd.skip (h : Sd w0 w x g rest er) (n : Int) :
    Calls Try.prog 31 #[.pointer (some ⟨g, 0, none⟩), .int .i64 n] w fun e w' => e = .returned (.tuple #[]) ∧ Sd w0 w' x g (skipS rest er n).1 (skipS rest er n).2 ∧ Upd w w' g := by
  have HT : Hid (∃ P : Value → Prop, Calls Try.prog 37 #[.pointer (some ⟨g, 0, none⟩), .int .i64 n, .bool (decide (0 ≤ n))] w fun e w' => ∃ v, e = .returned v ∧ Sd w0 w' x g (skipS rest er n).1 (skipS rest er n).2 ∧ Upd w w' g) := by
    show ∃ _, _
    refine ⟨fun _ => True, ?_⟩
    unfold skipS
    rcases h.take n (decide (0 ≤ n)) (fun h => by simpa using h) with ⟨l, r, he, hc⟩ | ⟨r, e', he, hc⟩
    · rw [he]
      refine hc.mono ?_
      rintro e w' ⟨v, rfl, _, hs, hu⟩
      exact ⟨v, rfl, hs, hu⟩
    · rw [he]
      refine hc.mono ?_
      rintro e w' ⟨rfl, hs, hu⟩
      exact ⟨_, rfl, hs, hu⟩
  clear h
  obtain ⟨_, hc⟩ := HT.out
  have HC := Lib.hid hc
  clear hc HT
  go_enter Try.func31, Try.ntmps31
  go_wp2_with (first
    | (go_at_call 37; refine HC.out.mono ?_; rintro e w1 ⟨v, rfl, hw⟩; have HW := Lib.hid hw; clear hw))
  (try simp only [Exit.inBlock, Exit.then])
  refine bodyPost_end (results_none rfl _ _ _) rfl ?_
  exact ⟨rfl, HW.out⟩
/-- Bytes: a slice of the call's own. -/
def BytesPost (w0 w : World) (x : Nat → Prop) (g : Nat) (s : List Int × List Int × Int) (e : Ending) (w' : World) : Prop := ∃ v, e = .returned v ∧ Kd.R (Kd.int .u8) 5 w' w.heap.size (fun _ => True) v s.1 ∧ Sd w0 w' x g s.2.1 s.2.2 ∧ Upd w w' g
theorem Sd.bytes (h : Sd w0 w x g rest er) (n : Int) :
    Calls Try.prog 29 #[.pointer (some ⟨g, 0, none⟩), .int .i64 n] w (BytesPost w0 w x g (bytesS rest er n)) := by
  have HT : Hid (Calls Try.prog 37 #[.pointer (some ⟨g, 0, none⟩), .int .i64 n, .bool (decide (0 ≤ n))] w (BytesPost w0 w x g (bytesS rest er n))) := by
    show Calls _ _ _ _ _
    unfold bytesS
    rcases h.take n (decide (0 ≤ n)) (fun h => by simpa using h) with ⟨l, r, he, hc⟩ | ⟨r, e', he, hc⟩
    · rw [he]
      exact hc
    · rw [he]
      refine hc.mono ?_
      rintro e w' ⟨rfl, hs, hu⟩
      exact ⟨_, rfl, Kd.R_nil _ _ _ _ _, hs, hu⟩
  clear h
  go_enter Try.func29, Try.ntmps29
  go_wp2_with (first
    | (go_at_call 37; refine HT.out.mono ?_; rintro e w1 ⟨v, rfl, hw⟩; have HW := Lib.hid hw; clear hw))
  go_ret
  exact ⟨_, rfl, HW.out⟩
/-- Uint. -/
theorem uint_none (n : Int) {w0 w : World} {r : List Int} {e' : Int} (b : Bool) (hb : (decide (1 ≤ n) = false ∧ b = false) ∨ (decide (1 ≤ n) = true ∧ decide (n ≤ 8) = b)) (HT : Hid (Calls Try.prog 37 #[.pointer (some ⟨g, 0, none⟩), .int .i64 n, .bool b] w fun e w' => e = .returned (.slice none 0 0) ∧ Sd w0 w' x g r e' ∧ Upd w w' g)) :
    Calls Try.prog 26 #[.pointer (some ⟨g, 0, none⟩), .int .i64 n] w fun e w' => e = .returned (.int .u64 0) ∧ Sd w0 w' x g r e' ∧ Upd w w' g := by
  obtain ⟨y, hy⟩ := rget_nil n
  have HY := Lib.hid hy
  clear hy
  rcases hb with ⟨d1, rfl⟩ | ⟨d1, d2⟩
  all_goals
    go_enter Try.func26, Try.ntmps26
    go_wp2_with (first
      | (go_at_call 37; refine HT.out.mono ?_; rintro e w1 ⟨rfl, hw⟩; have HW := Lib.hid hw; clear hw)
      | (go_at_call 12; refine (timesyncref02_Get.calls 20 none 0 [] 0 n 0 y _ (Kd.C_nil _ _) (Nat.le_refl 0) HY.out).mono ?_; rintro e w2 ⟨rfl, hb2⟩; have hx : Sd w0 w2 x g r e' ∧ Upd w w2 g := ⟨HW.out.1.below hb2.below, HW.out.2.trans (Upd.of_below hb2.below g)⟩; clear HW; have HW := Lib.hid hx; clear hx hb2))
    go_ret
    exact ⟨rfl, HW.out⟩
theorem uint_some (n : Nat) (h1 : 1 ≤ n) (h8 : n ≤ 8) {w0 w : World} {l r : List Int} (hl : Hid (l.length = n)) (hB : Hid (bytesOk l)) (HT : Hid (Calls Try.prog 37 #[.pointer (some ⟨g, 0, none⟩), .int .i64 n, .bool true] w (TakePost w0 w x g l r))) :
    Calls Try.prog 26 #[.pointer (some ⟨g, 0, none⟩), .int .i64 n] w fun e w' => e = .returned (.int .u64 (acc l n)) ∧ Sd w0 w' x g r 0 ∧ Upd w w' g := by
  have d1 : decide (1 ≤ (n : Int)) = true := decide_eq_true (by omega)
  have d2 : decide ((n : Int) ≤ 8) = true := decide_eq_true (by omega)
  have HY := Lib.hid (rget_all l n hl.out hB.out h1 h8)
  clear h1 h8
  go_enter Try.func26, Try.ntmps26
  go_wp2_with (first
    | (go_at_call 37; refine HT.out.mono ?_; rintro e w1 ⟨v, rfl, ho, hw⟩; obtain ⟨A1, c1, rfl, hc1, hC1⟩ := Kd.R_reads ho; have HC := Lib.hid hC1; have HL := Lib.hid hc1; have HW := Lib.hid hw; clear hw ho hc1 hC1)
    | (go_at_call 12; refine (timesyncref02_Get.calls 20 A1 c1 l 0 n _ 0 _ HC.out HL.out HY.out).mono ?_; rintro e w2 ⟨rfl, hb2⟩; have hx : Sd w0 w2 x g r 0 ∧ Upd w w2 g := ⟨HW.out.1.below hb2.below, HW.out.2.trans (Upd.of_below hb2.below g)⟩; clear HW; have HW := Lib.hid hx; clear hx hb2))
  go_ret
  exact ⟨rfl, HW.out⟩
theorem right_cases (n : Int) : (decide (1 ≤ n) = false ∧ rightS n = false) ∨ (decide (1 ≤ n) = true ∧ decide (n ≤ 8) = rightS n) := by
  unfold rightS
  by_cases h1 : 1 ≤ n
  · exact .inr ⟨decide_eq_true h1, by simp [h1]⟩
  · exact .inl ⟨decide_eq_false h1, decide_eq_false (fun h => h1 h.1)⟩
theorem takeS_rest {rest : List Int} {err n : Int} {ok : Bool} {l r : List Int} {e : Int} (h : takeS rest err n ok = (some l, r, e)) : ok = true := by
  unfold takeS at h
  split at h
  · cases h
  · split at h
    · cases h
    · rename_i hx
      simpa using hx
theorem Sd.uint (h : Sd w0 w x g rest er) (n : Int) :
    Calls Try.prog 26 #[.pointer (some ⟨g, 0, none⟩), .int .i64 n] w fun e w' => e = .returned (.int .u64 (uintS rest er n).1) ∧ Sd w0 w' x g (uintS rest er n).2.1 (uintS rest er n).2.2 ∧ Upd w w' g := by
  have hbo : bytesOk rest := by obtain ⟨_, _, h⟩ := h; exact h.ok
  unfold uintS
  rcases h.take n (rightS n) (fun h => by have := of_decide_eq_true h; omega) with ⟨l, r, he, hc⟩ | ⟨r, e', he, hc⟩
  · have hr := takeS_rest he
    obtain ⟨h1, h8⟩ := of_decide_eq_true hr
    obtain ⟨hl, hle⟩ := takeS_some he
    rw [hr] at hc he
    rw [hr, he]
    obtain ⟨m, rfl⟩ := Int.eq_ofNat_of_zero_le (show 0 ≤ n by omega)
    rw [Int.toNat_natCast] at hl ⊢
    exact uint_some m (by omega) (by omega) (show l.length = m by rw [hl, List.length_take]; omega) (show bytesOk l by rw [hl]; exact bytesOk_take hbo _) hc
  · rw [he]
    exact uint_none n (rightS n) (right_cases n) hc
end
end Go.Proofs.Yteiogfmfcmfpjaa.Rd
