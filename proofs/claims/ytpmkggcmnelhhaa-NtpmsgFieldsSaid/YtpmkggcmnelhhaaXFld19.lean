/- The law NtpmsgFields. -/
import Derived.Test.YtpmkggcmnelhhaaXRdA
import Derived.Test.YtpmkggcmnelhhaaXDec
import Derived.Test.YtpmkggcmnelhhaaPureDec19
import Derived.Test.YtpmkggcmnelhhaaPureAwk19
import Derived.Test.YtpmkggcmnelhhaaPx6
namespace Go.Proofs.Ytpmkggcmnelhhaa.P
set_option linter.unusedVariables false
set_option linter.unusedSimpArgs false
open Go.RowKit Go.Proofs.YtpmkggcmnelhhaaW.PrintWords Go.Proofs.YtpmkggcmnelhhaaW.PrintLast Go.Proofs.YtpmkggcmnelhhaaW.PrintMore Go.Proofs.Ytpmkggcmnelhhaa.Rd

theorem skip_one (x : Int) (r : List Int) : skipS (x :: r) 0 1 = (r, 0) := by
  unfold skipS takeS
  rw [if_neg (by simp), if_neg (by simp), if_neg (by rw [List.length_cons]; omega)]
  rfl
theorem uint_one (x : Int) (r : List Int) (h0 : 0 ≤ x) (h1 : x ≤ 255) : uintS (x :: r) 0 1 = (x, r, 0) := by
  have hr : rightS 1 = true := by decide
  have ht : takeS (x :: r) 0 1 true = (some [x], r, 0) := by simp [takeS]; omega
  unfold uintS
  rw [hr, ht]
  simp only
  rw [show (1 : Int).toNat = 1 from rfl, acc_one x h0 h1]
theorem int_one (P : Int) (r : List Int) (h0 : -128 ≤ P) (h1 : P ≤ 127) : intS (P % 256 :: r) 0 1 = (P, r, 0) := by
  have hr : rightS 1 = true := by decide
  have ht : takeS (P % 256 :: r) 0 1 true = (some [P % 256], r, 0) := by simp [takeS]; omega
  unfold intS
  rw [hr, ht]
  simp only
  rw [show (1 : Int).toNat = 1 from rfl, acc_one _ (by omega) (by omega), up_one P h0 h1]
theorem uintS_be (n : Int) (s : Nat) (h1 : 1 ≤ s) (h8 : s ≤ 8) (h0 : 0 ≤ n) (hn : n < 2 ^ (8 * s)) (r : List Int) : uintS (be n s ++ r) 0 s = (n, r, 0) := by
  have hr : rightS s = true := decide_eq_true ⟨by omega, by omega⟩
  have ht : takeS (be n s ++ r) 0 s true = (some (be n s), r, 0) := by
    unfold takeS
    rw [if_neg (by simp), if_neg (by simp), if_neg (by rw [List.length_append, be_length]; omega), Int.toNat_natCast]
    rw [List.take_append_of_le_length (by rw [be_length]; omega), List.take_of_length_le (by rw [be_length]; omega), List.drop_left' (be_length _ _)]
  unfold uintS
  rw [hr, ht]
  simp only
  rw [Int.toNat_natCast, acc_be n s h0 hn h8]
set_option maxHeartbeats 1000000 in
theorem fields_walk (k : Nat) (L V M S P C d1 d2 d3 d4 d5 d6 d7 : Int) (L0 L1 L2 L3 L4 L5 L6 L7 L8 L9 L10 : List Int) (w : World) (hE : Hid (ntpmsg_Encode.f k L V M S P C d1 d2 d3 d4 d5 d6 d7 = some (L0, 0)))
    (hok : Hid (bytesOk L0)) (hlen : Hid (L0.length = 48)) (h1 : Hid (skipS L0 0 1 = (L1, 0))) (h2 : Hid (uintS L1 0 1 = (S, L2, 0))) (h3 : Hid (intS L2 0 1 = (P, L3, 0))) (h4 : Hid (intS L3 0 1 = (C, L4, 0)))
    (h5 : Hid (uintS L4 0 4 = (d1, L5, 0))) (h6 : Hid (uintS L5 0 4 = (d2, L6, 0))) (h7 : Hid (uintS L6 0 4 = (d3, L7, 0))) (h8 : Hid (uintS L7 0 8 = (d4, L8, 0))) (h9 : Hid (uintS L8 0 8 = (d5, L9, 0))) (h10 : Hid (uintS L9 0 8 = (d6, L10, 0))) (h11 : Hid (uintS L10 0 8 = (d7, [], 0)))
    (hw0 : IntKind.u64.wrap S = S) (hw1 : IntKind.u64.wrap d1 = d1) (hw2 : IntKind.u64.wrap d2 = d2) (hw3 : IntKind.u64.wrap d3 = d3) :
    Calls Try.prog 7 #[.agg #[.int .i64 L, .int .i64 V, .int .i64 M, .int .i64 S, .int .i64 P, .int .i64 C, .int .u32 d1, .int .u32 d2, .int .u32 d3, .int .u64 d4, .int .u64 d5, .int .u64 d6, .int .u64 d7]] w fun e w' => e = .returned (.bool true) ∧ Below w.heap.size w w' := by
  have HB := Lib.hid (Below.refl w.heap.size w)
  go_enter Try.func7, Try.ntmps7
  go_wp2_with (first
    | ((with_reducible refine gate_dst (N := 1) rfl ?_); refine box_event ?hg (N := 1) ?hd (cs := #[.int .i64 L, .int .i64 V, .int .i64 M, .int .i64 S, .int .i64 P, .int .i64 C, .int .u32 d1, .int .u32 d2, .int .u32 d3, .int .u64 d4, .int .u64 d5, .int .u64 d6, .int .u64 d7]) (t := 25) ?hr ?_; (case hd => rfl); (case hg => rfl); (case hr => first | (go_simp; done) | (go_simp; rfl)); intro q hq w1 hbox hb1; have hql : w.heap.size ≤ q := (by omega); have hb := below_step HB.out hb1; have hbq : Blk w1 q [.int .i64 L, .int .i64 V, .int .i64 M, .int .i64 S, .int .i64 P, .int .i64 C, .int .u32 d1, .int .u32 d2, .int .u32 d3, .int .u64 d4, .int .u64 d5, .int .u64 d6, .int .u64 d7] 25 := hbox; clear HB; have HB := Lib.hid hb; have HQ := Lib.hid hbq; clear hb hb1 hq hbox hql; obtain ⟨hc0, hc1, hc2, hc3, hc4, hc5, hc6, hc7, hc8, hc9, hc10, hc11, hc12, hf0, hf1, hf2, hf3, hf4, hf5, hf6, hf7, hf8, hf9, hf10, hf11, hf12⟩ := blk_cells13 hbq; clear hbq)
    | ((with_reducible refine gate_callee (f := 8) rfl ?_); refine goesL_ _ rfl rfl Try.func8 (by kernel_rfl) rfl #[.agg #[.int .i64 L, .int .i64 V, .int .i64 M, .int .i64 S, .int .i64 P, .int .i64 C, .int .u32 d1, .int .u32 d2, .int .u32 d3, .int .u64 d4, .int .u64 d5, .int .u64 d6, .int .u64 d7]] rfl (by (try simp only [List.map_toArray, List.map_cons, List.map_nil]); first | done | rfl) ?_; refine (ntpmsg_Encode.calls k L V M S P C d1 d2 d3 d4 d5 d6 d7 _ _ _ hE.out).mono ?_; rintro e w2 ⟨v2, rfl, hr2, hb2⟩; obtain ⟨A2, c2, rfl, hcc2, hC2⟩ := Kd.R_reads hr2; refine ⟨_, rfl, ?_⟩; have hb := below_step HB.out hb2; have hq2 := HQ.out.below hb2; clear HB HQ hc0 hc1 hc2 hc3 hc4 hc5 hc6 hc7 hc8 hc9 hc10 hc11 hc12 hf0 hf1 hf2 hf3 hf4 hf5 hf6 hf7 hf8 hf9 hf10 hf11 hf12; have HB := Lib.hid hb; have HQ := Lib.hid hq2; have HC2 := Lib.hid hC2; have HL2 := Lib.hid hcc2; clear hb hb2 hcc2 hC2 hr2 hq2)
    | ((with_reducible refine gate_callee (f := 16) rfl ?_); refine goesL_ _ rfl rfl Try.func16 (by kernel_rfl) rfl #[.slice A2 L0.length c2] rfl (by (try simp only [List.map_toArray, List.map_cons, List.map_nil]); first | done | rfl) ?_; refine (RdA.new (w0 := w2) (Below.refl _ _) HC2.out HL2.out (by rw [hlen.out]; omega) hok.out).mono ?_; rintro e w3 ⟨g, b, rfl, hd, _, _, _⟩; refine ⟨_, rfl, ?_⟩; have HD := Lib.hid hd; clear hd HC2 HL2)
    | ((with_reducible refine gate_callee (f := 17) rfl ?_); refine goesL_ _ rfl rfl Try.func17 (by kernel_rfl) rfl #[.pointer (some ⟨g, 0, none⟩), .int .i64 1] rfl (by (try simp only [List.map_toArray, List.map_cons, List.map_nil]); first | done | rfl) ?_; refine (RdA.skip HD.out 1).mono ?_; rintro e w4 ⟨rfl, hd, _⟩; refine ⟨_, rfl, ?_⟩; clear HD; rw [h1.out] at hd; dsimp only at hd ⊢; have HD := Lib.hid hd; clear hd)
    | ((with_reducible refine gate_callee (f := 19) rfl ?_); refine goesL_ _ rfl rfl Try.func19 (by kernel_rfl) rfl #[.pointer (some ⟨g, 0, none⟩), .int .i64 1] rfl (by (try simp only [List.map_toArray, List.map_cons, List.map_nil]); first | done | rfl) ?_; refine (RdA.int HD.out 1).mono ?_; rintro e w5 ⟨rfl, hd, _⟩; refine ⟨_, rfl, ?_⟩; clear HD; (first | rw [h3.out] at hd ⊢ | rw [h4.out] at hd ⊢); dsimp only at hd ⊢; have HD := Lib.hid hd; clear hd)
    | ((with_reducible refine gate_callee (f := 18) rfl ?_); refine goesL_ _ rfl rfl Try.func18 (by kernel_rfl) rfl #[.pointer (some ⟨g, 0, none⟩), .int .i64 1] rfl (by (try simp only [List.map_toArray, List.map_cons, List.map_nil]); first | done | rfl) ?_; refine (RdA.uint HD.out 1).mono ?_; rintro e w6 ⟨rfl, hd, _⟩; refine ⟨_, rfl, ?_⟩; clear HD; rw [h2.out] at hd ⊢; dsimp only at hd ⊢; have HD := Lib.hid hd; clear hd)
    | ((with_reducible refine gate_callee (f := 18) rfl ?_); refine goesL_ _ rfl rfl Try.func18 (by kernel_rfl) rfl #[.pointer (some ⟨g, 0, none⟩), .int .i64 4] rfl (by (try simp only [List.map_toArray, List.map_cons, List.map_nil]); first | done | rfl) ?_; refine (RdA.uint HD.out 4).mono ?_; rintro e w7 ⟨rfl, hd, _⟩; refine ⟨_, rfl, ?_⟩; clear HD; (first | (rw [h5.out] at hd ⊢; dsimp only at hd ⊢) | (rw [h6.out] at hd ⊢; dsimp only at hd ⊢) | (rw [h7.out] at hd ⊢; dsimp only at hd ⊢; obtain ⟨hc0, hc1, hc2, hc3, hc4, hc5, hc6, hc7, hc8, hc9, hc10, hc11, hc12, hf0, hf1, hf2, hf3, hf4, hf5, hf6, hf7, hf8, hf9, hf10, hf11, hf12⟩ := blk_cells13 (HQ.out.below hd.low))); have HD := Lib.hid hd; clear hd)
    | ((with_reducible refine gate_callee (f := 18) rfl ?_); refine goesL_ _ rfl rfl Try.func18 (by kernel_rfl) rfl #[.pointer (some ⟨g, 0, none⟩), .int .i64 8] rfl (by (try simp only [List.map_toArray, List.map_cons, List.map_nil]); first | done | rfl) ?_; refine (RdA.uint HD.out 8).mono ?_; rintro e w8 ⟨rfl, hd, _⟩; refine ⟨_, rfl, ?_⟩; clear HD; (try clear hc0 hc1 hc2 hc3 hc4 hc5 hc6 hc7 hc8 hc9 hc10 hc11 hc12 hf0 hf1 hf2 hf3 hf4 hf5 hf6 hf7 hf8 hf9 hf10 hf11 hf12); (first | (rw [h8.out] at hd ⊢; dsimp only at hd ⊢) | (rw [h9.out] at hd ⊢; dsimp only at hd ⊢) | (rw [h10.out] at hd ⊢; dsimp only at hd ⊢) | (rw [h11.out] at hd ⊢; dsimp only at hd ⊢; obtain ⟨hc0, hc1, hc2, hc3, hc4, hc5, hc6, hc7, hc8, hc9, hc10, hc11, hc12, hf0, hf1, hf2, hf3, hf4, hf5, hf6, hf7, hf8, hf9, hf10, hf11, hf12⟩ := blk_cells13 (HQ.out.below hd.low))); have HD := Lib.hid hd; clear hd)
    | ((with_reducible refine gate_callee (f := 20) rfl ?_); (try (refine gate_guard (by rfl) ?_; dsimp only)); refine goesL_ _ rfl rfl Try.func20 (by kernel_rfl) rfl #[.pointer (some ⟨g, 0, none⟩)] rfl (by (try simp only [List.map_toArray, List.map_cons, List.map_nil]); first | done | rfl) ?_; refine (RdA.left HD.out).mono ?_; rintro e w9 ⟨rfl, rfl⟩; refine ⟨_, rfl, ?_⟩)
    | ((with_reducible refine gate_callee (f := 21) rfl ?_); (try (refine gate_guard (by rfl) ?_; dsimp only)); refine goesL_ _ rfl rfl Try.func21 (by kernel_rfl) rfl #[.pointer (some ⟨g, 0, none⟩)] rfl (by (try simp only [List.map_toArray, List.map_cons, List.map_nil]); first | done | rfl) ?_; refine (RdA.err HD.out).mono ?_; rintro e w9 ⟨rfl, rfl⟩; refine ⟨_, rfl, ?_⟩)
    | ((with_reducible refine gate_callee (f := 13) rfl ?_); (try (refine gate_guard (by rfl) ?_; dsimp only)); refine goesL_ _ rfl rfl Try.func13 (by kernel_rfl) rfl #[] rfl (by (try simp only [List.map_toArray, List.map_cons, List.map_nil]); first | done | rfl) ?_; refine (timesynclaw19_awake.calls 60 _ _ awake_ok).mono ?_; rintro e w10 ⟨rfl, hb9⟩; refine ⟨_, rfl, ?_⟩; have hb := below_step (below_step HB.out HD.out.low) hb9; clear HB HD; have HB := Lib.hid hb; clear hb hb9)
    )
  go_ret
  exact ⟨rfl, HB.out⟩
set_option maxHeartbeats 1000000 in
theorem fields_bad (k : Nat) (L V M S P C d1 d2 d3 d4 d5 d6 d7 : Int) (w : World) (hE : Hid (ntpmsg_Encode.f k L V M S P C d1 d2 d3 d4 d5 d6 d7 = some ([], 3))) :
    Calls Try.prog 7 #[.agg #[.int .i64 L, .int .i64 V, .int .i64 M, .int .i64 S, .int .i64 P, .int .i64 C, .int .u32 d1, .int .u32 d2, .int .u32 d3, .int .u64 d4, .int .u64 d5, .int .u64 d6, .int .u64 d7]] w fun e w' => e = .returned (.bool true) ∧ Below w.heap.size w w' := by
  have HB := Lib.hid (Below.refl w.heap.size w)
  go_enter Try.func7, Try.ntmps7
  go_wp2_with (first
    | ((with_reducible refine gate_dst (N := 1) rfl ?_); refine box_event ?hg (N := 1) ?hd (cs := #[.int .i64 L, .int .i64 V, .int .i64 M, .int .i64 S, .int .i64 P, .int .i64 C, .int .u32 d1, .int .u32 d2, .int .u32 d3, .int .u64 d4, .int .u64 d5, .int .u64 d6, .int .u64 d7]) (t := 25) ?hr ?_; (case hd => rfl); (case hg => rfl); (case hr => first | (go_simp; done) | (go_simp; rfl)); intro q hq w1 hbox hb1; have hb := below_step HB.out hb1; have hbq : Blk w1 q [.int .i64 L, .int .i64 V, .int .i64 M, .int .i64 S, .int .i64 P, .int .i64 C, .int .u32 d1, .int .u32 d2, .int .u32 d3, .int .u64 d4, .int .u64 d5, .int .u64 d6, .int .u64 d7] 25 := hbox; clear HB; have HB := Lib.hid hb; clear hb hb1 hq hbox; obtain ⟨hc0, hc1, hc2, hc3, hc4, hc5, hc6, hc7, hc8, hc9, hc10, hc11, hc12, hf0, hf1, hf2, hf3, hf4, hf5, hf6, hf7, hf8, hf9, hf10, hf11, hf12⟩ := blk_cells13 hbq; clear hbq)
    | ((with_reducible refine gate_callee (f := 8) rfl ?_); refine goesL_ _ rfl rfl Try.func8 (by kernel_rfl) rfl #[.agg #[.int .i64 L, .int .i64 V, .int .i64 M, .int .i64 S, .int .i64 P, .int .i64 C, .int .u32 d1, .int .u32 d2, .int .u32 d3, .int .u64 d4, .int .u64 d5, .int .u64 d6, .int .u64 d7]] rfl (by (try simp only [List.map_toArray, List.map_cons, List.map_nil]); first | done | rfl) ?_; refine (ntpmsg_Encode.calls k L V M S P C d1 d2 d3 d4 d5 d6 d7 _ _ _ hE.out).mono ?_; rintro e w2 ⟨v2, rfl, hr2, hb2⟩; refine ⟨_, rfl, ?_⟩; have hb := below_step HB.out hb2; clear HB hc0 hc1 hc2 hc3 hc4 hc5 hc6 hc7 hc8 hc9 hc10 hc11 hc12 hf0 hf1 hf2 hf3 hf4 hf5 hf6 hf7 hf8 hf9 hf10 hf11 hf12; have HB := Lib.hid hb; clear hb hb2 hr2)
    | ((with_reducible refine gate_callee (f := 13) rfl ?_); (try (refine gate_guard (by rfl) ?_; dsimp only)); refine goesL_ _ rfl rfl Try.func13 (by kernel_rfl) rfl #[] rfl (by (try simp only [List.map_toArray, List.map_cons, List.map_nil]); first | done | rfl) ?_; refine (timesynclaw19_awake.calls 60 _ _ awake_ok).mono ?_; rintro e w10 ⟨rfl, hb9⟩; refine ⟨_, rfl, ?_⟩; have hb := below_step HB.out hb9; clear HB; have HB := Lib.hid hb; clear hb hb9)
    )
  go_ret
  exact ⟨rfl, HB.out⟩
/-- What the law answers at a header whose numbers are of their kinds. -/
def timesynclaw19_NtpmsgFields.f (L V M S P C d1 d2 d3 d4 d5 d6 d7 : Int) : Option Bool :=
  if (0 ≤ d1 ∧ d1 < 2 ^ 32) ∧ (0 ≤ d2 ∧ d2 < 2 ^ 32) ∧ (0 ≤ d3 ∧ d3 < 2 ^ 32) ∧ (0 ≤ d4 ∧ d4 < 2 ^ 64) ∧ (0 ≤ d5 ∧ d5 < 2 ^ 64) ∧ (0 ≤ d6 ∧ d6 < 2 ^ 64) ∧ (0 ≤ d7 ∧ d7 < 2 ^ 64) then some true else none
theorem timesynclaw19_NtpmsgFields.calls (a0_0 a0_1 a0_2 a0_3 a0_4 a0_5 a0_6 a0_7 a0_8 a0_9 a0_10 a0_11 a0_12 : Int) (r : Bool) (w : World) (h : timesynclaw19_NtpmsgFields.f a0_0 a0_1 a0_2 a0_3 a0_4 a0_5 a0_6 a0_7 a0_8 a0_9 a0_10 a0_11 a0_12 = some r) :
    Calls Try.prog 7 #[.agg #[.int .i64 a0_0, .int .i64 a0_1, .int .i64 a0_2, .int .i64 a0_3, .int .i64 a0_4, .int .i64 a0_5, .int .u32 a0_6, .int .u32 a0_7, .int .u32 a0_8, .int .u64 a0_9, .int .u64 a0_10, .int .u64 a0_11, .int .u64 a0_12]] w fun e w' => e = .returned (.bool r) ∧ Below w.heap.size w w' := by
  unfold timesynclaw19_NtpmsgFields.f at h
  split at h
  · rename_i hd
    obtain ⟨g1, g2, g3, g4, g5, g6, g7⟩ := hd
    obtain rfl := Option.some.inj h
    by_cases hv : valid19 a0_0 a0_1 a0_2 a0_3 a0_4 a0_5
    · have hE := enc_ok 30 (by omega) _ _ _ _ _ _ _ _ _ _ _ _ _ hv g1 g2 g3 g4 g5 g6 g7
      have hb := hdr_bytes hv a0_6 a0_7 a0_8 a0_9 a0_10 a0_11 a0_12
      have hl := hdr_length a0_0 a0_1 a0_2 a0_3 a0_4 a0_5 a0_6 a0_7 a0_8 a0_9 a0_10 a0_11 a0_12
      have hv' := hv
      unfold valid19 at hv'
      have e8 : ∀ d : Int, (0 ≤ d ∧ d < 2 ^ 64) → uintS (be d 8) 0 8 = (d, [], 0) := fun d hd => by
        have := uintS_be d 8 (by omega) (by omega) hd.1 (by simpa using hd.2) []
        rw [List.append_nil] at this
        exact this
      refine fields_walk 30 a0_0 a0_1 a0_2 a0_3 a0_4 a0_5 a0_6 a0_7 a0_8 a0_9 a0_10 a0_11 a0_12 _ (a0_3 :: a0_4 % 256 :: a0_5 % 256 :: (be a0_6 4 ++ (be a0_7 4 ++ (be a0_8 4 ++ (be a0_9 8 ++ (be a0_10 8 ++ (be a0_11 8 ++ be a0_12 8)))))))
        (a0_4 % 256 :: a0_5 % 256 :: (be a0_6 4 ++ (be a0_7 4 ++ (be a0_8 4 ++ (be a0_9 8 ++ (be a0_10 8 ++ (be a0_11 8 ++ be a0_12 8))))))) (a0_5 % 256 :: (be a0_6 4 ++ (be a0_7 4 ++ (be a0_8 4 ++ (be a0_9 8 ++ (be a0_10 8 ++ (be a0_11 8 ++ be a0_12 8)))))))
        (be a0_6 4 ++ (be a0_7 4 ++ (be a0_8 4 ++ (be a0_9 8 ++ (be a0_10 8 ++ (be a0_11 8 ++ be a0_12 8)))))) (be a0_7 4 ++ (be a0_8 4 ++ (be a0_9 8 ++ (be a0_10 8 ++ (be a0_11 8 ++ be a0_12 8))))) (be a0_8 4 ++ (be a0_9 8 ++ (be a0_10 8 ++ (be a0_11 8 ++ be a0_12 8))))
        (be a0_9 8 ++ (be a0_10 8 ++ (be a0_11 8 ++ be a0_12 8))) (be a0_10 8 ++ (be a0_11 8 ++ be a0_12 8)) (be a0_11 8 ++ be a0_12 8) (be a0_12 8) w (hE) (hb) (hl) ?_ (uint_one _ _ (by omega) (by omega)) (int_one _ _ (by omega) (by omega)) (int_one _ _ (by omega) (by omega))
        (uintS_be _ 4 (by omega) (by omega) g1.1 (by simpa using g1.2) _) (uintS_be _ 4 (by omega) (by omega) g2.1 (by simpa using g2.2) _) (uintS_be _ 4 (by omega) (by omega) g3.1 (by simpa using g3.2) _) (uintS_be _ 8 (by omega) (by omega) g4.1 (by simpa using g4.2) _) (uintS_be _ 8 (by omega) (by omega) g5.1 (by simpa using g5.2) _) (uintS_be _ 8 (by omega) (by omega) g6.1 (by simpa using g6.2) _) (e8 _ g7)
        (by rw [IntKind.wrap_u64]; omega) (by rw [IntKind.wrap_u64]; omega) (by rw [IntKind.wrap_u64]; omega) (by rw [IntKind.wrap_u64]; omega)
      have : hdr a0_0 a0_1 a0_2 a0_3 a0_4 a0_5 a0_6 a0_7 a0_8 a0_9 a0_10 a0_11 a0_12 = (a0_0 * 64 + a0_1 * 8 + a0_2) :: (a0_3 :: a0_4 % 256 :: a0_5 % 256 :: (be a0_6 4 ++ (be a0_7 4 ++ (be a0_8 4 ++ (be a0_9 8 ++ (be a0_10 8 ++ (be a0_11 8 ++ be a0_12 8))))))) := by
        simp only [hdr, List.cons_append, List.nil_append, List.append_assoc]
      rw [this]
      exact skip_one _ _
    · refine fields_bad 30 a0_0 a0_1 a0_2 a0_3 a0_4 a0_5 a0_6 a0_7 a0_8 a0_9 a0_10 a0_11 a0_12 w ?_
      unfold ntpmsg_Encode.f
      rw [check_spec, if_neg hv]
      rfl
  · cases h
end Go.Proofs.Ytpmkggcmnelhhaa.P
