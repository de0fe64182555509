/- The reference's reader: Int, and NewReader. -/
import Derived.Test.YteiogfmfcmfpjaaXRs02
namespace Go.Proofs.Yteiogfmfcmfpjaa.Rd
set_option linter.unusedVariables false
set_option linter.unusedSimpArgs false
open Go.RowKit Go.Proofs.YteiogfmfcmfpjaaW.PrintWords Go.Proofs.YteiogfmfcmfpjaaW.PrintLast Go.Proofs.YteiogfmfcmfpjaaW.PrintMore
open Go.Proofs.Yteiogfmfcmfpjaa.P

section
variable {w0 w w' : World} {x : Nat → Prop} {g c : Nat} {rest : List Int} {er : Int} {p : Option Addr}
theorem rint_none (n : Int) {w0 w : World} {r : List Int} {e' : Int} (b : Bool) (hb : (decide (1 ≤ n) = false ∧ b = false) ∨ (decide (1 ≤ n) = true ∧ decide (n ≤ 8) = b)) (HT : Hid (Calls Try.prog 37 #[.pointer (some ⟨g, 0, none⟩), .int .i64 n, .bool b] w fun e w' => e = .returned (.slice none 0 0) ∧ Sd w0 w' x g r e' ∧ Upd w w' g)) :
    Calls Try.prog 27 #[.pointer (some ⟨g, 0, none⟩), .int .i64 n] w fun e w' => e = .returned (.int .i64 0) ∧ Sd w0 w' x g r e' ∧ Upd w w' g := by
  rcases hb with ⟨d1, rfl⟩ | ⟨d1, d2⟩
  all_goals
    go_enter Try.func27, Try.ntmps27
    go_wp2_with (first
      | (go_at_call 37; refine HT.out.mono ?_; rintro e w1 ⟨rfl, hw⟩; have HW := Lib.hid hw; clear hw))
    go_ret
    exact ⟨rfl, HW.out⟩
theorem bytes_at {w : World} {A : Option Addr} {n : Nat} {l : List Int} (hr : Kd.C (Kd.int .u8) w A n l) (h1 : 1 ≤ n) : ∃ ad, A = some ad ∧ ∀ k : Nat, k < n → w.cell? (ad.add k) = some (.int .u8 (rd l k)) := by
  have hc : ∀ k : Nat, k < n → ∃ ad, A = some ad ∧ w.cell? (ad.add k) = some (.int .u8 (rd l k)) := by
    intro k hk
    obtain ⟨ad, e, hcell⟩ := Kd.at_int hr (k : Int) (by omega) (by omega)
    rw [Int.toNat_natCast] at hcell
    exact ⟨ad, e, hcell⟩
  obtain ⟨ad, rfl, _⟩ := hc 0 (by omega)
  refine ⟨ad, rfl, fun k hk => ?_⟩
  obtain ⟨ad', e, h'⟩ := hc k hk
  cases e
  exact h'
set_option maxHeartbeats 1000000 in
theorem rint_some (n : Nat) (h1 : 1 ≤ n) (h8 : n ≤ 8) {w0 w : World} {l r : List Int} (hl : Hid (l.length = n)) (hB : Hid (bytesOk l)) (z : Int) (hz : (z = 0 ∧ decide (128 ≤ rd l 0) = false) ∨ (z = 18446744073709551615 ∧ decide (128 ≤ rd l 0) = true)) (HT : Hid (Calls Try.prog 37 #[.pointer (some ⟨g, 0, none⟩), .int .i64 n, .bool true] w (TakePost w0 w x g l r))) :
    Calls Try.prog 27 #[.pointer (some ⟨g, 0, none⟩), .int .i64 n] w fun e w' => e = .returned (.int .i64 (wrap64 (sacc l z n))) ∧ Sd w0 w' x g r 0 ∧ Upd w w' g := by
  have d1 : decide (1 ≤ (n : Int)) = true := decide_eq_true (by omega)
  have d2 : decide ((n : Int) ≤ 8) = true := decide_eq_true (by omega)
  have d3 : ((n : Int) == 0) = false := by simpa using (show ¬ (n : Int) = 0 by omega)
  have d4 : (n == 0) = false := by simpa using (show ¬ n = 0 by omega)
  have p1 : (0 < n) = True := eq_true (by omega)
  have H1 := Lib.hid h1
  have HZ := Lib.hid (rd_byte hB.out 0)
  rcases hz with ⟨rfl, c0⟩ | ⟨rfl, c0⟩
  · go_enter Try.func27, Try.ntmps27
    go_wp2_with (first
      | (go_at_call 37; refine HT.out.mono ?_; rintro e w1 ⟨v, rfl, ho, hw⟩; obtain ⟨A1, c1, rfl, hc1, hC1⟩ := Kd.R_reads ho; rw [hl.out] at hC1 hc1 ⊢; obtain ⟨ad, rfl, hcell⟩ := bytes_at hC1 H1.out; have HC := Lib.hid hcell; have hx0 := hcell 0 (by have := H1.out; omega); simp only [Go.Addr.add, ↓reduceIte, Int.natCast_zero] at hx0; have HW := Lib.hid hw; clear hw ho hc1 hC1 hcell))
    clear hx0 c0
    go_loop [6, 7] (fun v6 v7 => ∃ k : Nat, k ≤ n ∧ v7 = .int .i64 k ∧ v6 = .int .u64 (sacc l (0) k)) (fun v6 v7 => n - (intOf v7).toNat)
    case atStart => exact ⟨0, Nat.zero_le _, rfl, rfl⟩
    case round =>
      obtain ⟨k, hk, rfl, rfl⟩ := hrel
      by_cases hlt : k < n
      · have hx := HC.out k hlt
        obtain ⟨r0, r1⟩ := rd_byte hB.out k
        have hs : Hid (sacc l (0) (k + 1) = Go.bits .or .u64 (IntKind.u64.wrap (sacc l (0) k * 256)) (rd l k)) := by show _ = _; rfl
        generalize hX : rd l (k : Int) = y at *
        generalize hA : sacc l (0) k = a at *
        clear hX hA
        go_wp2
        go_round
        case rel => exact ⟨k + 1, by omega, by go_num, by rw [hs.out]⟩
        case measure => simp [intOf]; omega
      · obtain rfl : k = n := by omega
        go_wp2
        go_ret
        exact ⟨rfl, HW.out⟩
  · go_enter Try.func27, Try.ntmps27
    go_wp2_with (first
      | (go_at_call 37; refine HT.out.mono ?_; rintro e w1 ⟨v, rfl, ho, hw⟩; obtain ⟨A1, c1, rfl, hc1, hC1⟩ := Kd.R_reads ho; rw [hl.out] at hC1 hc1 ⊢; obtain ⟨ad, rfl, hcell⟩ := bytes_at hC1 H1.out; have HC := Lib.hid hcell; have hx0 := hcell 0 (by have := H1.out; omega); simp only [Go.Addr.add, ↓reduceIte, Int.natCast_zero] at hx0; have HW := Lib.hid hw; clear hw ho hc1 hC1 hcell))
    clear hx0 c0
    go_loop [6, 7] (fun v6 v7 => ∃ k : Nat, k ≤ n ∧ v7 = .int .i64 k ∧ v6 = .int .u64 (sacc l (18446744073709551615) k)) (fun v6 v7 => n - (intOf v7).toNat)
    case atStart => exact ⟨0, Nat.zero_le _, rfl, rfl⟩
    case round =>
      obtain ⟨k, hk, rfl, rfl⟩ := hrel
      by_cases hlt : k < n
      · have hx := HC.out k hlt
        obtain ⟨r0, r1⟩ := rd_byte hB.out k
        have hs : Hid (sacc l (18446744073709551615) (k + 1) = Go.bits .or .u64 (IntKind.u64.wrap (sacc l (18446744073709551615) k * 256)) (rd l k)) := by show _ = _; rfl
        generalize hX : rd l (k : Int) = y at *
        generalize hA : sacc l (18446744073709551615) k = a at *
        clear hX hA
        go_wp2
        go_round
        case rel => exact ⟨k + 1, by omega, by go_num, by rw [hs.out]⟩
        case measure => simp [intOf]; omega
      · obtain rfl : k = n := by omega
        go_wp2
        go_ret
        exact ⟨rfl, HW.out⟩
theorem Sd.int (h : Sd w0 w x g rest er) (n : Int) :
    Calls Try.prog 27 #[.pointer (some ⟨g, 0, none⟩), .int .i64 n] w fun e w' => e = .returned (.int .i64 (intS rest er n).1) ∧ Sd w0 w' x g (intS rest er n).2.1 (intS rest er n).2.2 ∧ Upd w w' g := by
  have hbo : bytesOk rest := by obtain ⟨_, _, h⟩ := h; exact h.ok
  unfold intS
  rcases h.take n (rightS n) (fun h => by have := of_decide_eq_true h; omega) with ⟨l, r, he, hc⟩ | ⟨r, e', he, hc⟩
  · have hr := takeS_rest he
    obtain ⟨h1, h8⟩ := of_decide_eq_true hr
    obtain ⟨hl, hle⟩ := takeS_some he
    rw [hr] at hc he
    rw [hr, he]
    obtain ⟨m, rfl⟩ := Int.eq_ofNat_of_zero_le (show 0 ≤ n by omega)
    rw [Int.toNat_natCast] at hl ⊢
    have hln : l.length = m := by rw [hl, List.length_take]; omega
    have hB : bytesOk l := by rw [hl]; exact bytesOk_take hbo _
    by_cases hz : 128 ≤ rd l 0
    · have := rint_some m (by omega) (by omega) hln hB 18446744073709551615 (.inr ⟨rfl, decide_eq_true hz⟩) hc
      rw [signed_ok hB m (by omega) (by omega) _ (.inr ⟨rfl, hz⟩)] at this
      exact this
    · have := rint_some m (by omega) (by omega) hln hB 0 (.inl ⟨rfl, decide_eq_false hz⟩) hc
      rw [signed_ok hB m (by omega) (by omega) _ (.inl ⟨rfl, by omega⟩)] at this
      exact this
  · rw [he]
    exact rint_none n (rightS n) (right_cases n) hc
/-- NewReader. -/
def NewSd (w0 w : World) (x : Nat → Prop) (l : List Int) (e : Ending) (w' : World) : Prop := ∃ g, e = .returned (.pointer (some ⟨g, 0, none⟩)) ∧ Sd w0 w' x g l 0 ∧ Below w.heap.size w w' ∧ w.heap.size ≤ g
set_option maxHeartbeats 1000000 in
theorem Sd.new {A : Option Addr} {cp : Nat} {l : List Int} (hw : Below w0.heap.size w0 w) (hr : Kd.C (Kd.int .u8) w A l.length l) (hb : l.length ≤ 140737488355000) (hk : bytesOk l) (hx : ∀ k, x k → k < w.heap.size) :
    Calls Try.prog 24 #[.slice A l.length cp] w (NewSd w0 w x l) := by
  have HR := Lib.hid hr
  have HW := Lib.hid hw
  have HX := Lib.hid hx
  have HBG := Lib.hid hb
  clear hr hw hx hb
  go_enter Try.func24, Try.ntmps24
  go_wp2_with (first
    | ((with_reducible refine gate_dst (N := 3) rfl ?_); refine Kd.R_lit (Kd.int .u8) (w0 := w) w.heap.size 5 ?hg (N := 3) ?hd (xs := ([] : List Int)) (inner := []) (ok := fun _ => True) (okp := fun _ => True) ?hr ?hp (fun _ hk => hk) trivial (Below.refl _ _) (Nat.le_refl _) (by simp) ?_; (case hd => rfl); (case hg => rfl); (case hr => first | (go_simp; done) | (go_simp; rfl)); (case hp => exact (Reps.none _ _)); intro v1 w1 ho1 hb1 _ _; have HO := Lib.hid ho1; have HB := Lib.hid hb1; clear ho1 hb1)
    | ((with_reducible refine gate_builtin (b := .append) (xs := #[.tmp 3, .tmp 4]) rfl ?_); at_builtin; refine Kd.R_append_rows (Kd.int .u8) (w0 := w) w.heap.size rfl (.tmp 3) (.tmp 4) 22 5 (.int .u8 0) 1 rfl Try.underlying22 app_info rfl (by decide) (by omega) v1 [] l A l.length cp (fun _ => True) (fun _ => False) rfl rfl HO.out (Kd.C_below HR.out HB.out) (fun _ _ h => h) (fun _ h => h.elim) (fun _ _ => trivial) HB.out HB.out.size ?aL ?_; (case aL => have := HBG.out; simp; omega); intro v2 w2 ho2 hb2 _ _; rw [List.nil_append] at ho2; obtain ⟨A2, c2, rfl, hc2, hC2⟩ := Kd.R_reads ho2; have HO2 := Lib.hid ho2; have HB2 := Lib.hid hb2; have HC2 := Lib.hid hc2; clear ho2 hb2 hc2 hC2)
    | ((with_reducible refine gate_dst (N := 7) rfl ?_); refine box_event ?hg (N := 7) ?hd (cs := #[.slice A2 l.length c2, .int .i64 0]) (t := 65) ?hr ?_; (case hd => rfl); (case hg => rfl); (case hr => first | (go_simp; done) | (go_simp; rfl)); intro q hq w3 hbox hb3; have hs2 := HB2.out.size; have hs : Sd w0 w3 x q l 0 := ⟨A2, c2, hbox, HC2.out, Kd.F_mono (Kd.R_F (Kd.R_below (Kd.R_bound HO2.out) hb3)) (fun k hk => ⟨by have := hk.2.2.1; omega, fun e => by have := hk.2.1; have := HX.out k e; omega⟩), fun e => (by have := HX.out q e; omega), by have := HW.out.size; omega, below_step (below_step HW.out HB2.out) hb3, hk, HBG.out⟩; have hq2 : w.heap.size ≤ q := (by omega); have hb4 := below_step HB2.out hb3; clear hq hbox hb3 hs2; have HS := Lib.hid hs; have HQ2 := Lib.hid hq2; have HB4 := Lib.hid hb4; clear hs hq2 hb4))
  go_ret
  exact ⟨q, rfl, HS.out, HB4.out, HQ2.out⟩
end
end Go.Proofs.Yteiogfmfcmfpjaa.Rd
