/- The law WireStops. -/
import Derived.Test.YteiogfmfcmfpjaaXAwk02
import Derived.Test.YteiogfmfcmfpjaaPx0
namespace Go.Proofs.Yteiogfmfcmfpjaa.P
set_option linter.unusedVariables false
set_option linter.unusedSimpArgs false
open Go.RowKit Go.Proofs.YteiogfmfcmfpjaaW.PrintWords Go.Proofs.YteiogfmfcmfpjaaW.PrintLast Go.Proofs.YteiogfmfcmfpjaaW.PrintMore Go.Proofs.Yteiogfmfcmfpjaa.Rd

theorem info52 : (Try.prog.info? 52).map (fun i => (i.zero, i.size, i.bytes)) = some (some (.agg #[.int .i64 0, .int .i64 0]), 2, 16) := by kernel_rfl
theorem first_c (A : Option Addr) (n c : Nat) (hn : n ≤ c) (w : World) : Calls Try.prog 25 #[.slice A n c] w fun e w' => e = .returned (.slice A (min n 200) c) ∧ w' = w := by
  obtain ⟨i0, hi0, _, _, _⟩ := info_parts info52
  have hcut := cut_to (P := Try.prog) 47 52 .i64 Try.underlying47 hi0 A n c (min (n : Int) 200) (by omega) (by omega) hn
  have e : (min (n : Int) 200).toNat = min n 200 := by omega
  rw [e] at hcut
  have q1 := eq_true (show 0 ≤ min (n : Int) 200 by omega)
  have q2 := eq_true (show min (n : Int) 200 ≤ (n : Int) by omega)
  go_enter Try.func25, Try.ntmps25
  go_wp2
  all_goals
    go_ret
    refine ⟨?_, rfl⟩
    first | (rw [show min n 200 = 200 by omega]; rfl) | (rw [show min n 200 = n by omega]; rfl)
theorem stop_skip (R : List Int) (e n : Int) (he : e ≠ 0) : skipS R e n = (R, e) := by unfold skipS takeS; rw [if_pos he]
theorem stop_uint (R : List Int) (e n : Int) (he : e ≠ 0) : uintS R e n = (0, R, e) := by unfold uintS takeS; rw [if_pos he]
theorem stop_int (R : List Int) (e n : Int) (he : e ≠ 0) : intS R e n = (0, R, e) := by unfold intS takeS; rw [if_pos he]
theorem stop_bytes (R : List Int) (e n : Int) (he : e ≠ 0) : bytesS R e n = ([], R, e) := by unfold bytesS takeS; rw [if_pos he]
set_option maxHeartbeats 4000000 in
theorem stops_walk (A0 : Option Addr) (c0 : Nat) (l0 : List Int) (a1 a2 : Int) (A3 : Option Addr) (c3 : Nat) (l3 : List S52) (w : World) (hr0 : Hid (Kd.C (Kd.int .u8) w A0 l0.length l0)) (hc0 : Hid (l0.length ≤ c0)) (hr3 : Hid (Kd.C k52 w A3 l3.length l3)) (hc3 : Hid (l3.length ≤ c3))
    (hok : Hid (bytesOk l0)) (hlen : decide (5000 < (l0.length : Int)) = false) (hlen2 : Hid (l0.length ≤ 5000)) (R : List Int) (m s p : Nat) (N want : Int) (hw0 : Hid (want ≠ 0))
    (e1 : wrap64 ((l0.length : Int) + 1) = (l0.length : Int) + 1) (e2 : IntKind.u64.wrap ((l0.length : Int) + 1) = (l0.length : Int) + 1) (e3 : (((l0.length : Int) + 1) == 0) = false) (e3' : ¬ ((l0.length : Int) + 1 = 0))
    (e4 : wrap64 ((IntKind.u64.wrap a1).tmod ((l0.length : Int) + 1)) = (s : Int)) (e5 : wrap64 ((l0.length : Int) - s) = (m : Int)) (hs : Hid (skipS l0 0 s = (R, 0))) (hR : R.length = m) (hb : Hid (bytesS R 0 N = ([], R, want))) (hp : Hid (min l3.length 200 = p))
    (hn : (decide (0 ≤ a2) = true ∧ wrap64 (wrap64 ((m : Int) + 1) + a2.tmod 1000) = N ∧ want = 5) ∨ (decide (0 ≤ a2) = false ∧ a2 = N ∧ want = 2)) :
    Calls Try.prog 8 #[.slice A0 l0.length c0, .int .i64 a1, .int .i64 a2, .slice A3 l3.length c3] w fun e w' => e = .returned (.bool true) ∧ Below w.heap.size w w' := by
  rcases hn with ⟨n1, n2, rfl⟩ | ⟨n1, rfl, rfl⟩
  all_goals
    go_enter Try.func8, Try.ntmps8
    go_wp2_with (first
      | (go_at_call 15; refine (RdA.new (w0 := w) (Below.refl _ _) hr0.out hc0.out (by have := hlen2.out; omega) hok.out).mono ?_; rintro e w3 ⟨g, b, rfl, hd, _, _, _⟩; have HD := Lib.hid hd; clear hd)
      | (go_at_call 30; refine (RdA.skip HD.out s).mono ?_; rintro e w4 ⟨rfl, hd, _⟩; clear HD; rw [hs.out] at hd; dsimp only at hd; have HD := Lib.hid hd; clear hd)
      | (go_at_call 18; refine (RdA.left HD.out).mono ?_; rintro e wq ⟨rfl, rfl⟩)
      | (go_at_call 19; refine (RdA.err HD.out).mono ?_; rintro e wq ⟨rfl, rfl⟩)
      | (go_at_call 28; refine (RdA.bytes HD.out _).mono ?_; rintro e w5 ⟨Ab, cb, rfl, _, _, hd, _, _⟩; rw [hb.out] at hd ⊢; dsimp only at hd ⊢; clear HD; have HD := Lib.hid hd; clear hd)
      | (go_at_call 25; refine (first_c A3 l3.length c3 hc3.out _).mono ?_; rintro e w6 ⟨rfl, rfl⟩; rw [hp.out])
      )
    go_loopw [73] (fun v73 wr => ∃ j : Int, v73 = .int .i64 j ∧ Hid (0 ≤ j ∧ j ≤ (p : Int)) ∧ Hid (RdA w wr g b l0 R _)) (fun v73 _ => p - (intOf v73).toNat)
    case atStart => exact ⟨0, rfl, ⟨Int.le_refl _, by omega⟩, HD⟩
    case round =>
      clear HD
      obtain ⟨j, rfl, HI, HD⟩ := hrel
      by_cases hi : j < (p : Int)
      · have c1 : decide (j < (p : Int)) = true := decide_eq_true hi
        have hij := HI.out
        have hp3 := hp.out
        have e9 : wrap64 (j + 1) = j + 1 := by unfold wrap64; omega
        have HI2 : Hid (0 ≤ j + 1 ∧ j + 1 ≤ (p : Int)) := ⟨by omega, by omega⟩
        have HM : Hid (p - (j + 1).toNat < p - j.toNat) := (by omega : p - (j + 1).toNat < p - j.toNat)
        obtain ⟨ad, e, hx0, hx1⟩ := at_T52 hr3.out j (by omega) (by omega)
        cases e
        replace hx0 := (HD.out.low.cell (World.block_lt_of_cell? w _ hx0)).trans hx0
        replace hx1 := (HD.out.low.cell (World.block_lt_of_cell? w _ hx1)).trans hx1
        have p1 := eq_true hij.1
        have p2 := eq_true hi
        clear hi hij HI hp3
        go_wp2_with (first
          | ((with_reducible refine gate_dst (N := 13) rfl ?_); refine box_event ?hg (N := 13) ?hd (cs := #[.int .i64 0, .int .i64 0]) (t := 52) ?hr ?_; (case hd => rfl); (case hg => rfl); (case hr => first | (go_simp; done) | (go_simp; rfl)); intro q hg wb hbox hb1; have hgl := HD.out.g_lt; have hbl := HD.out.b_lt; have hsz := HD.out.low.size; have hd := HD.out.below' hb1; have hq : q ≠ g ∧ g ≠ q ∧ b ≠ q ∧ w.heap.size ≤ q := (by refine ⟨?_, ?_, ?_, ?_⟩ <;> omega); have hk : Hid (wb.heap[q]? = some (.cells #[.int .i64 0, .int .i64 0] 52 (0, 0))) := hbox; have hz0 := (blk_cell hbox 0).trans rfl; have hz1 := (blk_cell hbox 1).trans rfl; have hf0 := blk_frozen hbox 0; have hf1 := blk_frozen hbox 1; replace hx0 := (hb1.cell (World.block_lt_of_cell? _ _ hx0)).trans hx0; replace hx1 := (hb1.cell (World.block_lt_of_cell? _ _ hx1)).trans hx1; clear HD; have HD := Lib.hid hd; have HQ := Lib.hid hq; clear hd hq hg hbox hb1 hgl hbl hsz)
          | (go_at_call 30; refine (RdA.skip ((HD.out.upd (Upd.set _ q 0 _) HQ.out.2.2.2 HQ.out.2.1 HQ.out.2.2.1).upd (Upd.set _ q 1 _) HQ.out.2.2.2 HQ.out.2.1 HQ.out.2.2.1) _).mono ?_; rintro e wn ⟨rfl, hd, hu⟩; rw [stop_skip _ _ _ hw0.out] at hd; dsimp only at hd; have hk9 : Hid (((wb.setCell ⟨q, 0, none⟩ (.int .i64 (rd_T52 l3 j).f0)).setCell ⟨q, 1, none⟩ (.int .i64 (rd_T52 l3 j).f1)).heap[q]? = some (.cells #[.int .i64 (rd_T52 l3 j).f0, .int .i64 (rd_T52 l3 j).f1] 52 (0, 0))) := (blk_set (blk_set hk.out 0 _) 1 _).trans rfl; have hk2 : Hid (wn.heap[q]? = some (.cells #[.int .i64 (rd_T52 l3 j).f0, .int .i64 (rd_T52 l3 j).f1] 52 (0, 0))) := (hu.block q (lt_of_blk hk9.out) HQ.out.1).trans hk9.out; clear HD hk hz0 hz1 hf0 hf1 hx0 hx1; have hz1 := (blk_cell hk2.out 1).trans rfl; have HK := hk2; have HD := Lib.hid hd; clear hd hu hk2 hk9)
          | (go_at_call 17; refine (RdA.uint HD.out _).mono ?_; rintro e wn ⟨rfl, hd, hu⟩; rw [stop_uint _ _ _ hw0.out] at hd ⊢; dsimp only at hd ⊢; have hk2 : Hid (wn.heap[q]? = some (.cells #[.int .i64 (rd_T52 l3 j).f0, .int .i64 (rd_T52 l3 j).f1] 52 (0, 0))) := (hu.block q (lt_of_blk HK.out) HQ.out.1).trans HK.out; clear HD HK hz1; have hz1 := (blk_cell hk2.out 1).trans rfl; have HK := hk2; have HD := Lib.hid hd; clear hd hu hk2)
          | (go_at_call 16; refine (RdA.int HD.out _).mono ?_; rintro e wn ⟨rfl, hd, hu⟩; rw [stop_int _ _ _ hw0.out] at hd ⊢; dsimp only at hd ⊢; have hk2 : Hid (wn.heap[q]? = some (.cells #[.int .i64 (rd_T52 l3 j).f0, .int .i64 (rd_T52 l3 j).f1] 52 (0, 0))) := (hu.block q (lt_of_blk HK.out) HQ.out.1).trans HK.out; clear HD HK hz1; have hz1 := (blk_cell hk2.out 1).trans rfl; have HK := hk2; have HD := Lib.hid hd; clear hd hu hk2)
          | (go_at_call 28; refine (RdA.bytes HD.out _).mono ?_; rintro e wn ⟨Ab, cb, rfl, _, _, hd, hu, _⟩; rw [stop_bytes _ _ _ hw0.out] at hd ⊢; dsimp only at hd ⊢; have hk2 : Hid (wn.heap[q]? = some (.cells #[.int .i64 (rd_T52 l3 j).f0, .int .i64 (rd_T52 l3 j).f1] 52 (0, 0))) := (hu.block q (lt_of_blk HK.out) HQ.out.1).trans HK.out; clear HD HK hz1; have hz1 := (blk_cell hk2.out 1).trans rfl; have HK := hk2; have HD := Lib.hid hd; clear hd hu hk2)
          | (go_at_call 18; refine (RdA.left HD.out).mono ?_; rintro e wq ⟨rfl, rfl⟩)
          | (go_at_call 19; refine (RdA.err HD.out).mono ?_; rintro e wq ⟨rfl, rfl⟩))
        exact ⟨⟨j + 1, by rw [e9], HI2, HD⟩, by rw [e9]; exact HM.out⟩
      · have c1 : decide (j < (p : Int)) = false := decide_eq_false hi
        go_wp2_with (first
          | (go_at_call 13; refine (awake_true _).mono ?_; rintro e w9 ⟨rfl, hb9⟩; have hb := below_step HD.out.low hb9; have HB := Lib.hid hb; clear hb hb9))
        go_ret
        exact ⟨rfl, HB.out⟩
theorem small_wrap (x : Int) (h0 : 0 ≤ x) (h1 : x ≤ 1000000) : wrap64 x = x := by unfold wrap64; omega
theorem small_wrap_u (x : Int) (h0 : 0 ≤ x) (h1 : x ≤ 1000000) : IntKind.u64.wrap x = x := by rw [IntKind.wrap_u64]; omega
theorem stops_long (A0 : Option Addr) (c0 : Nat) (l0 : List Int) (a1 a2 : Int) (A3 : Option Addr) (c3 : Nat) (n3 : Nat) (w : World) (hlen : decide (5000 < (l0.length : Int)) = true) :
    Calls Try.prog 8 #[.slice A0 l0.length c0, .int .i64 a1, .int .i64 a2, .slice A3 n3 c3] w fun e w' => e = .returned (.bool true) ∧ Below w.heap.size w w' := by
  go_enter Try.func8, Try.ntmps8
  go_wp2_with (first
    | (go_at_call 13; refine (awake_true _).mono ?_; rintro e w9 ⟨rfl, hb9⟩; have HB := Lib.hid hb9; clear hb9))
  go_ret
  exact ⟨rfl, HB.out⟩
/-- What the law answers at numbers of their kinds. -/
def timesynclaw02_WireStops.f (l0 : List Int) (a1 a2 : Int) (l3 : List S52) : Option Bool := if (∀ x ∈ l0, 0 ≤ x ∧ x ≤ 255) ∧ -9223372036854775808 ≤ a2 ∧ a2 ≤ 9223372036854775807 then some true else none
theorem timesynclaw02_WireStops.calls (A0 : Option Addr) (c0 : Nat) (l0 : List Int) (a1 : Int) (a2 : Int) (A3 : Option Addr) (c3 : Nat) (l3 : List (S52)) (r : Bool) (w : World) (hr0 : Kd.C (Kd.int .u8) w A0 l0.length l0) (hc0 : l0.length ≤ c0) (hr3 : Kd.C k52 w A3 l3.length l3) (hc3 : l3.length ≤ c3) (h : timesynclaw02_WireStops.f l0 a1 a2 l3 = some r) :
    Calls Try.prog 8 #[.slice A0 l0.length c0, .int .i64 a1, .int .i64 a2, .slice A3 l3.length c3] w fun e w' => e = .returned (.bool r) ∧ Below w.heap.size w w' := by
  unfold timesynclaw02_WireStops.f at h
  split at h
  · rename_i hx
    obtain ⟨hb, ha0, ha1⟩ := hx
    obtain rfl := Option.some.inj h
    by_cases hl : (l0.length : Int) > 5000
    · exact stops_long A0 c0 l0 a1 a2 A3 c3 l3.length w (decide_eq_true hl)
    · have ht : ∃ s : Nat, (IntKind.u64.wrap a1).tmod ((l0.length : Int) + 1) = (s : Int) ∧ s ≤ l0.length := by
        have h0 : 0 ≤ IntKind.u64.wrap a1 := by rw [IntKind.wrap_u64]; omega
        rw [Int.tmod_eq_emod_of_nonneg h0]
        have h1 := Int.emod_nonneg (IntKind.u64.wrap a1) (show (l0.length : Int) + 1 ≠ 0 by omega)
        have h2 := Int.emod_lt_of_pos (IntKind.u64.wrap a1) (show 0 < (l0.length : Int) + 1 by omega)
        obtain ⟨s, hs⟩ := Int.eq_ofNat_of_zero_le h1
        exact ⟨s, hs, by omega⟩
      obtain ⟨s, hs, hsl⟩ := ht
      have hR : (l0.drop s).length = l0.length - s := List.length_drop
      have hskip : skipS l0 0 s = (l0.drop s, 0) := by
        unfold skipS takeS
        rw [if_neg (by simp), if_neg (by simp), if_neg (by omega), Int.toNat_natCast]
      have hN : ∃ N want : Int, want ≠ 0 ∧ bytesS (l0.drop s) 0 N = ([], l0.drop s, want) ∧
          ((decide (0 ≤ a2) = true ∧ wrap64 (wrap64 (((l0.length - s : Nat) : Int) + 1) + a2.tmod 1000) = N ∧ want = 5) ∨ (decide (0 ≤ a2) = false ∧ a2 = N ∧ want = 2)) := by
        by_cases h2 : 0 ≤ a2
        · refine ⟨((l0.length - s : Nat) : Int) + 1 + a2 % 1000, 5, by omega, ?_, .inl ⟨decide_eq_true h2, ?_, rfl⟩⟩
          · unfold bytesS takeS
            rw [if_neg (by simp), if_neg (by rw [decide_eq_true (by omega)]; simp), if_pos (by omega)]
          · rw [Int.tmod_eq_emod_of_nonneg h2, small_wrap (((l0.length - s : Nat) : Int) + 1) (by omega) (by omega), small_wrap _ (by omega) (by omega)]
        · refine ⟨a2, 2, by omega, ?_, .inr ⟨decide_eq_false h2, rfl, rfl⟩⟩
          unfold bytesS takeS
          rw [if_neg (by simp), if_pos (decide_eq_false h2)]
      obtain ⟨N, want, hw0, hbs, hn⟩ := hN
      exact stops_walk A0 c0 l0 a1 a2 A3 c3 l3 w hr0 hc0 hr3 hc3 hb (decide_eq_false hl) (show l0.length ≤ 5000 by omega) (l0.drop s) (l0.length - s) s _ N want hw0
        (small_wrap _ (by omega) (by omega)) (small_wrap_u _ (by omega) (by omega)) (by simp; omega) (by omega) (by rw [hs]; exact small_wrap _ (by omega) (by omega)) (by rw [small_wrap _ (by omega) (by omega)]; omega) hskip hR hbs rfl hn
  · cases h
end Go.Proofs.Yteiogfmfcmfpjaa.P
