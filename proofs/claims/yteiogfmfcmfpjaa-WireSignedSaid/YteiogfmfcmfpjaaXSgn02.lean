/- The law WireSigned, for each of the eight sizes. -/
import Derived.Test.YteiogfmfcmfpjaaXAwk02
import Derived.Test.YteiogfmfcmfpjaaPureAccG
namespace Go.Proofs.Yteiogfmfcmfpjaa.P
set_option linter.unusedVariables false
set_option linter.unusedSimpArgs false
open Go.RowKit Go.Proofs.YteiogfmfcmfpjaaW.PrintWords Go.Proofs.YteiogfmfcmfpjaaW.PrintLast Go.Proofs.YteiogfmfcmfpjaaW.PrintMore Go.Proofs.Yteiogfmfcmfpjaa.Rd

theorem u_1 (n : Int) : 0 ≤ (IntKind.u64.wrap (IntKind.u64.wrap (wrap64 (n * 72057594037927936) / 72057594037927936) * 72057594037927936) / 72057594037927936) ∧ (IntKind.u64.wrap (IntKind.u64.wrap (wrap64 (n * 72057594037927936) / 72057594037927936) * 72057594037927936) / 72057594037927936) < 2 ^ (8 * 1) := by
  rw [show (2 : Int) ^ (8 * 1) = 256 from rfl]
  simp only [IntKind.wrap_u64]
  generalize wrap64 _ = y
  omega
theorem n_1 (n : Int) : upDown (IntKind.u64.wrap (IntKind.u64.wrap (wrap64 (n * 72057594037927936) / 72057594037927936) * 72057594037927936) / 72057594037927936) 1 = (wrap64 (n * 72057594037927936) / 72057594037927936) := by
  unfold upDown
  simp only [IntKind.wrap_u64, show (2 : Int) ^ (64 - 8 * 1) = 72057594037927936 from rfl]
  unfold wrap64
  omega
set_option maxHeartbeats 2000000 in
theorem sgn_1 (n size : Int) (w : World) (hm : (IntKind.u64.wrap size).tmod 8 = 0) :
    Calls Try.prog 4 #[.int .i64 n, .int .i64 size] w fun e w' => e = .returned (.bool true) ∧ Below w.heap.size w w' := by
  have hu := u_1 n
  have hA : wire_Append.f [] (IntKind.u64.wrap (IntKind.u64.wrap (wrap64 (n * 72057594037927936) / 72057594037927936) * 72057594037927936) / 72057594037927936) 1 = some ([] ++ be (IntKind.u64.wrap (IntKind.u64.wrap (wrap64 (n * 72057594037927936) / 72057594037927936) * 72057594037927936) / 72057594037927936) 1, 0) := app_fits [] (IntKind.u64.wrap (IntKind.u64.wrap (wrap64 (n * 72057594037927936) / 72057594037927936) * 72057594037927936) / 72057594037927936) 1 (by omega) (by omega) hu.1 hu.2 (by simp)
  have hI : intS (be (IntKind.u64.wrap (IntKind.u64.wrap (wrap64 (n * 72057594037927936) / 72057594037927936) * 72057594037927936) / 72057594037927936) 1 ++ []) 0 1 = (upDown (IntKind.u64.wrap (IntKind.u64.wrap (wrap64 (n * 72057594037927936) / 72057594037927936) * 72057594037927936) / 72057594037927936) 1, [], 0) := intS_be (IntKind.u64.wrap (IntKind.u64.wrap (wrap64 (n * 72057594037927936) / 72057594037927936) * 72057594037927936) / 72057594037927936) 1 (by omega) (by omega) hu.1 hu.2 []
  have hU : uintS (be (IntKind.u64.wrap (IntKind.u64.wrap (wrap64 (n * 72057594037927936) / 72057594037927936) * 72057594037927936) / 72057594037927936) 1 ++ []) 0 1 = ((IntKind.u64.wrap (IntKind.u64.wrap (wrap64 (n * 72057594037927936) / 72057594037927936) * 72057594037927936) / 72057594037927936), [], 0) := uintS_be (IntKind.u64.wrap (IntKind.u64.wrap (wrap64 (n * 72057594037927936) / 72057594037927936) * 72057594037927936) / 72057594037927936) 1 (by omega) (by omega) hu.1 hu.2 []
  rw [List.append_nil, n_1] at hI
  rw [List.append_nil] at hU
  rw [List.nil_append] at hA
  have hlen := be_length (IntKind.u64.wrap (IntKind.u64.wrap (wrap64 (n * 72057594037927936) / 72057594037927936) * 72057594037927936) / 72057594037927936) 1
  have hby := be_bytes (IntKind.u64.wrap (IntKind.u64.wrap (wrap64 (n * 72057594037927936) / 72057594037927936) * 72057594037927936) / 72057594037927936) 1
  generalize hL : be (IntKind.u64.wrap (IntKind.u64.wrap (wrap64 (n * 72057594037927936) / 72057594037927936) * 72057594037927936) / 72057594037927936) 1 = L at hA hI hU hlen hby
  clear hL hu
  have HA := Lib.hid hA
  have HI := Lib.hid hI
  have HU := Lib.hid hU
  have HBY := Lib.hid hby
  have HLN := Lib.hid hlen
  clear hA hI hU hby hlen
  have HB := Lib.hid (Below.refl w.heap.size w)
  go_enter Try.func4, Try.ntmps4
  go_wp2_with (first
    | ((with_reducible refine gate_callee (f := 14) rfl ?_); (try (refine gate_guard (by rfl) ?_; dsimp only)); refine goesL_ _ rfl rfl Try.func14 (by kernel_rfl) rfl #[.slice none ([] : List Int).length 0, .int .u64 (IntKind.u64.wrap (IntKind.u64.wrap (wrap64 (n * 72057594037927936) / 72057594037927936) * 72057594037927936) / 72057594037927936), .int .i64 1] rfl (by (try simp only [List.map_toArray, List.map_cons, List.map_nil]); first | done | rfl) ?_; refine (wire_Append.calls none 0 [] (IntKind.u64.wrap (IntKind.u64.wrap (wrap64 (n * 72057594037927936) / 72057594037927936) * 72057594037927936) / 72057594037927936) 1 _ _ _ (Kd.C_nil _ _) (by simp) HA.out).mono ?_; rintro e w2 ⟨v2, rfl, hr2, hb2⟩; obtain ⟨A2, c2, rfl, hc2, hC2⟩ := Kd.R_reads hr2; refine ⟨_, rfl, ?_⟩; have HC2 := Lib.hid hC2; have HL2 := Lib.hid hc2; have hb := below_step HB.out hb2; clear HB; have HB := Lib.hid hb; clear hb hb2 hc2 hC2 hr2)
    | ((with_reducible refine gate_callee (f := 15) rfl ?_); (try (refine gate_guard (by rfl) ?_; dsimp only)); refine goesL_ _ rfl rfl Try.func15 (by kernel_rfl) rfl #[.slice A2 L.length c2] rfl (by (try simp only [List.map_toArray, List.map_cons, List.map_nil]); first | done | rfl) ?_; have hx := HC2.out; refine (RdA.new (w0 := w2) (Below.refl _ _) hx HL2.out (by rw [HLN.out]; omega) HBY.out).mono ?_; rintro e w3 ⟨g1, b1, rfl, hd1, hlo1, _, _⟩; refine ⟨_, rfl, ?_⟩; have HD1 := Lib.hid hd1; have hC2 := Kd.C_below hx hlo1; clear HC2; have HC3 := Lib.hid hC2; clear hd1 hlo1 hC2 hx)
    | ((with_reducible refine gate_callee (f := 15) rfl ?_); (try (refine gate_guard (by rfl) ?_; dsimp only)); refine goesL_ _ rfl rfl Try.func15 (by kernel_rfl) rfl #[.slice A2 L.length c2] rfl (by (try simp only [List.map_toArray, List.map_cons, List.map_nil]); first | done | rfl) ?_; have hx := HC3.out; have hlo := HD1.out.low; have hgl := HD1.out.g_lt; have hbl := HD1.out.b_lt; refine (RdA.new (w0 := w2) hlo hx HL2.out (by rw [HLN.out]; omega) HBY.out).mono ?_; rintro e w4 ⟨g2, b2, rfl, hd2, hlo2, hg2, hb2⟩; refine ⟨_, rfl, ?_⟩; have hd1 := HD1.out.below' hlo2; have hne : g1 ≠ g2 ∧ b1 ≠ g2 ∧ g2 ≠ g1 ∧ b2 ≠ g1 := (by refine ⟨?_, ?_, ?_, ?_⟩ <;> omega); have HNE := Lib.hid hne; clear HD1 HC3 HL2; have HD1 := Lib.hid hd1; have HD2 := Lib.hid hd2; clear hd1 hd2 hlo hgl hbl hlo2 hg2 hb2 hne hx)
    | ((with_reducible refine gate_callee (f := 16) rfl ?_); (try (refine gate_guard (by rfl) ?_; dsimp only)); refine goesL_ _ rfl rfl Try.func16 (by kernel_rfl) rfl #[.pointer (some ⟨g1, 0, none⟩), .int .i64 1] rfl (by (try simp only [List.map_toArray, List.map_cons, List.map_nil]); first | done | rfl) ?_; refine (RdA.int HD1.out 1).mono ?_; rintro e w5 ⟨rfl, hd, hu5⟩; refine ⟨_, rfl, ?_⟩; have hd2 := HD2.out.upd hu5 HD1.out.g0 HNE.out.2.2.1 HNE.out.2.2.2; clear HD1 HD2; rw [HI.out] at hd ⊢; dsimp only at hd ⊢; have HD1 := Lib.hid hd; have HD2 := Lib.hid hd2; clear hd hd2 hu5)
    | ((with_reducible refine gate_callee (f := 17) rfl ?_); (try (refine gate_guard (by rfl) ?_; dsimp only)); refine goesL_ _ rfl rfl Try.func17 (by kernel_rfl) rfl #[.pointer (some ⟨g2, 0, none⟩), .int .i64 1] rfl (by (try simp only [List.map_toArray, List.map_cons, List.map_nil]); first | done | rfl) ?_; refine (RdA.uint HD2.out 1).mono ?_; rintro e w6 ⟨rfl, hd, hu6⟩; refine ⟨_, rfl, ?_⟩; have hd1 := HD1.out.upd hu6 HD2.out.g0 HNE.out.1 HNE.out.2.1; clear HD1 HD2; rw [HU.out] at hd ⊢; dsimp only at hd ⊢; have HD1 := Lib.hid hd1; clear hd hd1 hu6)
    | ((with_reducible refine gate_callee (f := 18) rfl ?_); (try (refine gate_guard (by rfl) ?_; dsimp only)); refine goesL_ _ rfl rfl Try.func18 (by kernel_rfl) rfl #[.pointer (some ⟨g1, 0, none⟩)] rfl (by (try simp only [List.map_toArray, List.map_cons, List.map_nil]); first | done | rfl) ?_; refine (RdA.left HD1.out).mono ?_; rintro e w7 ⟨rfl, rfl⟩; refine ⟨_, rfl, ?_⟩)
    | ((with_reducible refine gate_callee (f := 19) rfl ?_); (try (refine gate_guard (by rfl) ?_; dsimp only)); refine goesL_ _ rfl rfl Try.func19 (by kernel_rfl) rfl #[.pointer (some ⟨g1, 0, none⟩)] rfl (by (try simp only [List.map_toArray, List.map_cons, List.map_nil]); first | done | rfl) ?_; refine (RdA.err HD1.out).mono ?_; rintro e w8 ⟨rfl, rfl⟩; refine ⟨_, rfl, ?_⟩)
    | ((with_reducible refine gate_callee (f := 13) rfl ?_); (try (refine gate_guard (by rfl) ?_; dsimp only)); refine goesL_ _ rfl rfl Try.func13 (by kernel_rfl) rfl #[] rfl (by (try simp only [List.map_toArray, List.map_cons, List.map_nil]); first | done | rfl) ?_; refine (awake_true _).mono ?_; rintro e w9 ⟨rfl, hb9⟩; refine ⟨_, rfl, ?_⟩; have hb := below_step (below_step HB.out HD1.out.low) hb9; clear HB HD1; have HB := Lib.hid hb; clear hb hb9)
    )
  go_ret
  exact ⟨rfl, HB.out⟩
theorem u_2 (n : Int) : 0 ≤ (IntKind.u64.wrap (IntKind.u64.wrap (wrap64 (n * 281474976710656) / 281474976710656) * 281474976710656) / 281474976710656) ∧ (IntKind.u64.wrap (IntKind.u64.wrap (wrap64 (n * 281474976710656) / 281474976710656) * 281474976710656) / 281474976710656) < 2 ^ (8 * 2) := by
  rw [show (2 : Int) ^ (8 * 2) = 65536 from rfl]
  simp only [IntKind.wrap_u64]
  generalize wrap64 _ = y
  omega
theorem n_2 (n : Int) : upDown (IntKind.u64.wrap (IntKind.u64.wrap (wrap64 (n * 281474976710656) / 281474976710656) * 281474976710656) / 281474976710656) 2 = (wrap64 (n * 281474976710656) / 281474976710656) := by
  unfold upDown
  simp only [IntKind.wrap_u64, show (2 : Int) ^ (64 - 8 * 2) = 281474976710656 from rfl]
  unfold wrap64
  omega
set_option maxHeartbeats 2000000 in
theorem sgn_2 (n size : Int) (w : World) (hm : (IntKind.u64.wrap size).tmod 8 = 1) :
    Calls Try.prog 4 #[.int .i64 n, .int .i64 size] w fun e w' => e = .returned (.bool true) ∧ Below w.heap.size w w' := by
  have hu := u_2 n
  have hA : wire_Append.f [] (IntKind.u64.wrap (IntKind.u64.wrap (wrap64 (n * 281474976710656) / 281474976710656) * 281474976710656) / 281474976710656) 2 = some ([] ++ be (IntKind.u64.wrap (IntKind.u64.wrap (wrap64 (n * 281474976710656) / 281474976710656) * 281474976710656) / 281474976710656) 2, 0) := app_fits [] (IntKind.u64.wrap (IntKind.u64.wrap (wrap64 (n * 281474976710656) / 281474976710656) * 281474976710656) / 281474976710656) 2 (by omega) (by omega) hu.1 hu.2 (by simp)
  have hI : intS (be (IntKind.u64.wrap (IntKind.u64.wrap (wrap64 (n * 281474976710656) / 281474976710656) * 281474976710656) / 281474976710656) 2 ++ []) 0 2 = (upDown (IntKind.u64.wrap (IntKind.u64.wrap (wrap64 (n * 281474976710656) / 281474976710656) * 281474976710656) / 281474976710656) 2, [], 0) := intS_be (IntKind.u64.wrap (IntKind.u64.wrap (wrap64 (n * 281474976710656) / 281474976710656) * 281474976710656) / 281474976710656) 2 (by omega) (by omega) hu.1 hu.2 []
  have hU : uintS (be (IntKind.u64.wrap (IntKind.u64.wrap (wrap64 (n * 281474976710656) / 281474976710656) * 281474976710656) / 281474976710656) 2 ++ []) 0 2 = ((IntKind.u64.wrap (IntKind.u64.wrap (wrap64 (n * 281474976710656) / 281474976710656) * 281474976710656) / 281474976710656), [], 0) := uintS_be (IntKind.u64.wrap (IntKind.u64.wrap (wrap64 (n * 281474976710656) / 281474976710656) * 281474976710656) / 281474976710656) 2 (by omega) (by omega) hu.1 hu.2 []
  rw [List.append_nil, n_2] at hI
  rw [List.append_nil] at hU
  rw [List.nil_append] at hA
  have hlen := be_length (IntKind.u64.wrap (IntKind.u64.wrap (wrap64 (n * 281474976710656) / 281474976710656) * 281474976710656) / 281474976710656) 2
  have hby := be_bytes (IntKind.u64.wrap (IntKind.u64.wrap (wrap64 (n * 281474976710656) / 281474976710656) * 281474976710656) / 281474976710656) 2
  generalize hL : be (IntKind.u64.wrap (IntKind.u64.wrap (wrap64 (n * 281474976710656) / 281474976710656) * 281474976710656) / 281474976710656) 2 = L at hA hI hU hlen hby
  clear hL hu
  have HA := Lib.hid hA
  have HI := Lib.hid hI
  have HU := Lib.hid hU
  have HBY := Lib.hid hby
  have HLN := Lib.hid hlen
  clear hA hI hU hby hlen
  have HB := Lib.hid (Below.refl w.heap.size w)
  go_enter Try.func4, Try.ntmps4
  go_wp2_with (first
    | ((with_reducible refine gate_callee (f := 14) rfl ?_); (try (refine gate_guard (by rfl) ?_; dsimp only)); refine goesL_ _ rfl rfl Try.func14 (by kernel_rfl) rfl #[.slice none ([] : List Int).length 0, .int .u64 (IntKind.u64.wrap (IntKind.u64.wrap (wrap64 (n * 281474976710656) / 281474976710656) * 281474976710656) / 281474976710656), .int .i64 2] rfl (by (try simp only [List.map_toArray, List.map_cons, List.map_nil]); first | done | rfl) ?_; refine (wire_Append.calls none 0 [] (IntKind.u64.wrap (IntKind.u64.wrap (wrap64 (n * 281474976710656) / 281474976710656) * 281474976710656) / 281474976710656) 2 _ _ _ (Kd.C_nil _ _) (by simp) HA.out).mono ?_; rintro e w2 ⟨v2, rfl, hr2, hb2⟩; obtain ⟨A2, c2, rfl, hc2, hC2⟩ := Kd.R_reads hr2; refine ⟨_, rfl, ?_⟩; have HC2 := Lib.hid hC2; have HL2 := Lib.hid hc2; have hb := below_step HB.out hb2; clear HB; have HB := Lib.hid hb; clear hb hb2 hc2 hC2 hr2)
    | ((with_reducible refine gate_callee (f := 15) rfl ?_); (try (refine gate_guard (by rfl) ?_; dsimp only)); refine goesL_ _ rfl rfl Try.func15 (by kernel_rfl) rfl #[.slice A2 L.length c2] rfl (by (try simp only [List.map_toArray, List.map_cons, List.map_nil]); first | done | rfl) ?_; have hx := HC2.out; refine (RdA.new (w0 := w2) (Below.refl _ _) hx HL2.out (by rw [HLN.out]; omega) HBY.out).mono ?_; rintro e w3 ⟨g1, b1, rfl, hd1, hlo1, _, _⟩; refine ⟨_, rfl, ?_⟩; have HD1 := Lib.hid hd1; have hC2 := Kd.C_below hx hlo1; clear HC2; have HC3 := Lib.hid hC2; clear hd1 hlo1 hC2 hx)
    | ((with_reducible refine gate_callee (f := 15) rfl ?_); (try (refine gate_guard (by rfl) ?_; dsimp only)); refine goesL_ _ rfl rfl Try.func15 (by kernel_rfl) rfl #[.slice A2 L.length c2] rfl (by (try simp only [List.map_toArray, List.map_cons, List.map_nil]); first | done | rfl) ?_; have hx := HC3.out; have hlo := HD1.out.low; have hgl := HD1.out.g_lt; have hbl := HD1.out.b_lt; refine (RdA.new (w0 := w2) hlo hx HL2.out (by rw [HLN.out]; omega) HBY.out).mono ?_; rintro e w4 ⟨g2, b2, rfl, hd2, hlo2, hg2, hb2⟩; refine ⟨_, rfl, ?_⟩; have hd1 := HD1.out.below' hlo2; have hne : g1 ≠ g2 ∧ b1 ≠ g2 ∧ g2 ≠ g1 ∧ b2 ≠ g1 := (by refine ⟨?_, ?_, ?_, ?_⟩ <;> omega); have HNE := Lib.hid hne; clear HD1 HC3 HL2; have HD1 := Lib.hid hd1; have HD2 := Lib.hid hd2; clear hd1 hd2 hlo hgl hbl hlo2 hg2 hb2 hne hx)
    | ((with_reducible refine gate_callee (f := 16) rfl ?_); (try (refine gate_guard (by rfl) ?_; dsimp only)); refine goesL_ _ rfl rfl Try.func16 (by kernel_rfl) rfl #[.pointer (some ⟨g1, 0, none⟩), .int .i64 2] rfl (by (try simp only [List.map_toArray, List.map_cons, List.map_nil]); first | done | rfl) ?_; refine (RdA.int HD1.out 2).mono ?_; rintro e w5 ⟨rfl, hd, hu5⟩; refine ⟨_, rfl, ?_⟩; have hd2 := HD2.out.upd hu5 HD1.out.g0 HNE.out.2.2.1 HNE.out.2.2.2; clear HD1 HD2; rw [HI.out] at hd ⊢; dsimp only at hd ⊢; have HD1 := Lib.hid hd; have HD2 := Lib.hid hd2; clear hd hd2 hu5)
    | ((with_reducible refine gate_callee (f := 17) rfl ?_); (try (refine gate_guard (by rfl) ?_; dsimp only)); refine goesL_ _ rfl rfl Try.func17 (by kernel_rfl) rfl #[.pointer (some ⟨g2, 0, none⟩), .int .i64 2] rfl (by (try simp only [List.map_toArray, List.map_cons, List.map_nil]); first | done | rfl) ?_; refine (RdA.uint HD2.out 2).mono ?_; rintro e w6 ⟨rfl, hd, hu6⟩; refine ⟨_, rfl, ?_⟩; have hd1 := HD1.out.upd hu6 HD2.out.g0 HNE.out.1 HNE.out.2.1; clear HD1 HD2; rw [HU.out] at hd ⊢; dsimp only at hd ⊢; have HD1 := Lib.hid hd1; clear hd hd1 hu6)
    | ((with_reducible refine gate_callee (f := 18) rfl ?_); (try (refine gate_guard (by rfl) ?_; dsimp only)); refine goesL_ _ rfl rfl Try.func18 (by kernel_rfl) rfl #[.pointer (some ⟨g1, 0, none⟩)] rfl (by (try simp only [List.map_toArray, List.map_cons, List.map_nil]); first | done | rfl) ?_; refine (RdA.left HD1.out).mono ?_; rintro e w7 ⟨rfl, rfl⟩; refine ⟨_, rfl, ?_⟩)
    | ((with_reducible refine gate_callee (f := 19) rfl ?_); (try (refine gate_guard (by rfl) ?_; dsimp only)); refine goesL_ _ rfl rfl Try.func19 (by kernel_rfl) rfl #[.pointer (some ⟨g1, 0, none⟩)] rfl (by (try simp only [List.map_toArray, List.map_cons, List.map_nil]); first | done | rfl) ?_; refine (RdA.err HD1.out).mono ?_; rintro e w8 ⟨rfl, rfl⟩; refine ⟨_, rfl, ?_⟩)
    | ((with_reducible refine gate_callee (f := 13) rfl ?_); (try (refine gate_guard (by rfl) ?_; dsimp only)); refine goesL_ _ rfl rfl Try.func13 (by kernel_rfl) rfl #[] rfl (by (try simp only [List.map_toArray, List.map_cons, List.map_nil]); first | done | rfl) ?_; refine (awake_true _).mono ?_; rintro e w9 ⟨rfl, hb9⟩; refine ⟨_, rfl, ?_⟩; have hb := below_step (below_step HB.out HD1.out.low) hb9; clear HB HD1; have HB := Lib.hid hb; clear hb hb9)
    )
  go_ret
  exact ⟨rfl, HB.out⟩
theorem u_3 (n : Int) : 0 ≤ (IntKind.u64.wrap (IntKind.u64.wrap (wrap64 (n * 1099511627776) / 1099511627776) * 1099511627776) / 1099511627776) ∧ (IntKind.u64.wrap (IntKind.u64.wrap (wrap64 (n * 1099511627776) / 1099511627776) * 1099511627776) / 1099511627776) < 2 ^ (8 * 3) := by
  rw [show (2 : Int) ^ (8 * 3) = 16777216 from rfl]
  simp only [IntKind.wrap_u64]
  generalize wrap64 _ = y
  omega
theorem n_3 (n : Int) : upDown (IntKind.u64.wrap (IntKind.u64.wrap (wrap64 (n * 1099511627776) / 1099511627776) * 1099511627776) / 1099511627776) 3 = (wrap64 (n * 1099511627776) / 1099511627776) := by
  unfold upDown
  simp only [IntKind.wrap_u64, show (2 : Int) ^ (64 - 8 * 3) = 1099511627776 from rfl]
  unfold wrap64
  omega
set_option maxHeartbeats 2000000 in
theorem sgn_3 (n size : Int) (w : World) (hm : (IntKind.u64.wrap size).tmod 8 = 2) :
    Calls Try.prog 4 #[.int .i64 n, .int .i64 size] w fun e w' => e = .returned (.bool true) ∧ Below w.heap.size w w' := by
  have hu := u_3 n
  have hA : wire_Append.f [] (IntKind.u64.wrap (IntKind.u64.wrap (wrap64 (n * 1099511627776) / 1099511627776) * 1099511627776) / 1099511627776) 3 = some ([] ++ be (IntKind.u64.wrap (IntKind.u64.wrap (wrap64 (n * 1099511627776) / 1099511627776) * 1099511627776) / 1099511627776) 3, 0) := app_fits [] (IntKind.u64.wrap (IntKind.u64.wrap (wrap64 (n * 1099511627776) / 1099511627776) * 1099511627776) / 1099511627776) 3 (by omega) (by omega) hu.1 hu.2 (by simp)
  have hI : intS (be (IntKind.u64.wrap (IntKind.u64.wrap (wrap64 (n * 1099511627776) / 1099511627776) * 1099511627776) / 1099511627776) 3 ++ []) 0 3 = (upDown (IntKind.u64.wrap (IntKind.u64.wrap (wrap64 (n * 1099511627776) / 1099511627776) * 1099511627776) / 1099511627776) 3, [], 0) := intS_be (IntKind.u64.wrap (IntKind.u64.wrap (wrap64 (n * 1099511627776) / 1099511627776) * 1099511627776) / 1099511627776) 3 (by omega) (by omega) hu.1 hu.2 []
  have hU : uintS (be (IntKind.u64.wrap (IntKind.u64.wrap (wrap64 (n * 1099511627776) / 1099511627776) * 1099511627776) / 1099511627776) 3 ++ []) 0 3 = ((IntKind.u64.wrap (IntKind.u64.wrap (wrap64 (n * 1099511627776) / 1099511627776) * 1099511627776) / 1099511627776), [], 0) := uintS_be (IntKind.u64.wrap (IntKind.u64.wrap (wrap64 (n * 1099511627776) / 1099511627776) * 1099511627776) / 1099511627776) 3 (by omega) (by omega) hu.1 hu.2 []
  rw [List.append_nil, n_3] at hI
  rw [List.append_nil] at hU
  rw [List.nil_append] at hA
  have hlen := be_length (IntKind.u64.wrap (IntKind.u64.wrap (wrap64 (n * 1099511627776) / 1099511627776) * 1099511627776) / 1099511627776) 3
  have hby := be_bytes (IntKind.u64.wrap (IntKind.u64.wrap (wrap64 (n * 1099511627776) / 1099511627776) * 1099511627776) / 1099511627776) 3
  generalize hL : be (IntKind.u64.wrap (IntKind.u64.wrap (wrap64 (n * 1099511627776) / 1099511627776) * 1099511627776) / 1099511627776) 3 = L at hA hI hU hlen hby
  clear hL hu
  have HA := Lib.hid hA
  have HI := Lib.hid hI
  have HU := Lib.hid hU
  have HBY := Lib.hid hby
  have HLN := Lib.hid hlen
  clear hA hI hU hby hlen
  have HB := Lib.hid (Below.refl w.heap.size w)
  go_enter Try.func4, Try.ntmps4
  go_wp2_with (first
    | ((with_reducible refine gate_callee (f := 14) rfl ?_); (try (refine gate_guard (by rfl) ?_; dsimp only)); refine goesL_ _ rfl rfl Try.func14 (by kernel_rfl) rfl #[.slice none ([] : List Int).length 0, .int .u64 (IntKind.u64.wrap (IntKind.u64.wrap (wrap64 (n * 1099511627776) / 1099511627776) * 1099511627776) / 1099511627776), .int .i64 3] rfl (by (try simp only [List.map_toArray, List.map_cons, List.map_nil]); first | done | rfl) ?_; refine (wire_Append.calls none 0 [] (IntKind.u64.wrap (IntKind.u64.wrap (wrap64 (n * 1099511627776) / 1099511627776) * 1099511627776) / 1099511627776) 3 _ _ _ (Kd.C_nil _ _) (by simp) HA.out).mono ?_; rintro e w2 ⟨v2, rfl, hr2, hb2⟩; obtain ⟨A2, c2, rfl, hc2, hC2⟩ := Kd.R_reads hr2; refine ⟨_, rfl, ?_⟩; have HC2 := Lib.hid hC2; have HL2 := Lib.hid hc2; have hb := below_step HB.out hb2; clear HB; have HB := Lib.hid hb; clear hb hb2 hc2 hC2 hr2)
    | ((with_reducible refine gate_callee (f := 15) rfl ?_); (try (refine gate_guard (by rfl) ?_; dsimp only)); refine goesL_ _ rfl rfl Try.func15 (by kernel_rfl) rfl #[.slice A2 L.length c2] rfl (by (try simp only [List.map_toArray, List.map_cons, List.map_nil]); first | done | rfl) ?_; have hx := HC2.out; refine (RdA.new (w0 := w2) (Below.refl _ _) hx HL2.out (by rw [HLN.out]; omega) HBY.out).mono ?_; rintro e w3 ⟨g1, b1, rfl, hd1, hlo1, _, _⟩; refine ⟨_, rfl, ?_⟩; have HD1 := Lib.hid hd1; have hC2 := Kd.C_below hx hlo1; clear HC2; have HC3 := Lib.hid hC2; clear hd1 hlo1 hC2 hx)
    | ((with_reducible refine gate_callee (f := 15) rfl ?_); (try (refine gate_guard (by rfl) ?_; dsimp only)); refine goesL_ _ rfl rfl Try.func15 (by kernel_rfl) rfl #[.slice A2 L.length c2] rfl (by (try simp only [List.map_toArray, List.map_cons, List.map_nil]); first | done | rfl) ?_; have hx := HC3.out; have hlo := HD1.out.low; have hgl := HD1.out.g_lt; have hbl := HD1.out.b_lt; refine (RdA.new (w0 := w2) hlo hx HL2.out (by rw [HLN.out]; omega) HBY.out).mono ?_; rintro e w4 ⟨g2, b2, rfl, hd2, hlo2, hg2, hb2⟩; refine ⟨_, rfl, ?_⟩; have hd1 := HD1.out.below' hlo2; have hne : g1 ≠ g2 ∧ b1 ≠ g2 ∧ g2 ≠ g1 ∧ b2 ≠ g1 := (by refine ⟨?_, ?_, ?_, ?_⟩ <;> omega); have HNE := Lib.hid hne; clear HD1 HC3 HL2; have HD1 := Lib.hid hd1; have HD2 := Lib.hid hd2; clear hd1 hd2 hlo hgl hbl hlo2 hg2 hb2 hne hx)
    | ((with_reducible refine gate_callee (f := 16) rfl ?_); (try (refine gate_guard (by rfl) ?_; dsimp only)); refine goesL_ _ rfl rfl Try.func16 (by kernel_rfl) rfl #[.pointer (some ⟨g1, 0, none⟩), .int .i64 3] rfl (by (try simp only [List.map_toArray, List.map_cons, List.map_nil]); first | done | rfl) ?_; refine (RdA.int HD1.out 3).mono ?_; rintro e w5 ⟨rfl, hd, hu5⟩; refine ⟨_, rfl, ?_⟩; have hd2 := HD2.out.upd hu5 HD1.out.g0 HNE.out.2.2.1 HNE.out.2.2.2; clear HD1 HD2; rw [HI.out] at hd ⊢; dsimp only at hd ⊢; have HD1 := Lib.hid hd; have HD2 := Lib.hid hd2; clear hd hd2 hu5)
    | ((with_reducible refine gate_callee (f := 17) rfl ?_); (try (refine gate_guard (by rfl) ?_; dsimp only)); refine goesL_ _ rfl rfl Try.func17 (by kernel_rfl) rfl #[.pointer (some ⟨g2, 0, none⟩), .int .i64 3] rfl (by (try simp only [List.map_toArray, List.map_cons, List.map_nil]); first | done | rfl) ?_; refine (RdA.uint HD2.out 3).mono ?_; rintro e w6 ⟨rfl, hd, hu6⟩; refine ⟨_, rfl, ?_⟩; have hd1 := HD1.out.upd hu6 HD2.out.g0 HNE.out.1 HNE.out.2.1; clear HD1 HD2; rw [HU.out] at hd ⊢; dsimp only at hd ⊢; have HD1 := Lib.hid hd1; clear hd hd1 hu6)
    | ((with_reducible refine gate_callee (f := 18) rfl ?_); (try (refine gate_guard (by rfl) ?_; dsimp only)); refine goesL_ _ rfl rfl Try.func18 (by kernel_rfl) rfl #[.pointer (some ⟨g1, 0, none⟩)] rfl (by (try simp only [List.map_toArray, List.map_cons, List.map_nil]); first | done | rfl) ?_; refine (RdA.left HD1.out).mono ?_; rintro e w7 ⟨rfl, rfl⟩; refine ⟨_, rfl, ?_⟩)
    | ((with_reducible refine gate_callee (f := 19) rfl ?_); (try (refine gate_guard (by rfl) ?_; dsimp only)); refine goesL_ _ rfl rfl Try.func19 (by kernel_rfl) rfl #[.pointer (some ⟨g1, 0, none⟩)] rfl (by (try simp only [List.map_toArray, List.map_cons, List.map_nil]); first | done | rfl) ?_; refine (RdA.err HD1.out).mono ?_; rintro e w8 ⟨rfl, rfl⟩; refine ⟨_, rfl, ?_⟩)
    | ((with_reducible refine gate_callee (f := 13) rfl ?_); (try (refine gate_guard (by rfl) ?_; dsimp only)); refine goesL_ _ rfl rfl Try.func13 (by kernel_rfl) rfl #[] rfl (by (try simp only [List.map_toArray, List.map_cons, List.map_nil]); first | done | rfl) ?_; refine (awake_true _).mono ?_; rintro e w9 ⟨rfl, hb9⟩; refine ⟨_, rfl, ?_⟩; have hb := below_step (below_step HB.out HD1.out.low) hb9; clear HB HD1; have HB := Lib.hid hb; clear hb hb9)
    )
  go_ret
  exact ⟨rfl, HB.out⟩
theorem u_4 (n : Int) : 0 ≤ (IntKind.u64.wrap (IntKind.u64.wrap (wrap64 (n * 4294967296) / 4294967296) * 4294967296) / 4294967296) ∧ (IntKind.u64.wrap (IntKind.u64.wrap (wrap64 (n * 4294967296) / 4294967296) * 4294967296) / 4294967296) < 2 ^ (8 * 4) := by
  rw [show (2 : Int) ^ (8 * 4) = 4294967296 from rfl]
  simp only [IntKind.wrap_u64]
  generalize wrap64 _ = y
  omega
theorem n_4 (n : Int) : upDown (IntKind.u64.wrap (IntKind.u64.wrap (wrap64 (n * 4294967296) / 4294967296) * 4294967296) / 4294967296) 4 = (wrap64 (n * 4294967296) / 4294967296) := by
  unfold upDown
  simp only [IntKind.wrap_u64, show (2 : Int) ^ (64 - 8 * 4) = 4294967296 from rfl]
  unfold wrap64
  omega
set_option maxHeartbeats 2000000 in
theorem sgn_4 (n size : Int) (w : World) (hm : (IntKind.u64.wrap size).tmod 8 = 3) :
    Calls Try.prog 4 #[.int .i64 n, .int .i64 size] w fun e w' => e = .returned (.bool true) ∧ Below w.heap.size w w' := by
  have hu := u_4 n
  have hA : wire_Append.f [] (IntKind.u64.wrap (IntKind.u64.wrap (wrap64 (n * 4294967296) / 4294967296) * 4294967296) / 4294967296) 4 = some ([] ++ be (IntKind.u64.wrap (IntKind.u64.wrap (wrap64 (n * 4294967296) / 4294967296) * 4294967296) / 4294967296) 4, 0) := app_fits [] (IntKind.u64.wrap (IntKind.u64.wrap (wrap64 (n * 4294967296) / 4294967296) * 4294967296) / 4294967296) 4 (by omega) (by omega) hu.1 hu.2 (by simp)
  have hI : intS (be (IntKind.u64.wrap (IntKind.u64.wrap (wrap64 (n * 4294967296) / 4294967296) * 4294967296) / 4294967296) 4 ++ []) 0 4 = (upDown (IntKind.u64.wrap (IntKind.u64.wrap (wrap64 (n * 4294967296) / 4294967296) * 4294967296) / 4294967296) 4, [], 0) := intS_be (IntKind.u64.wrap (IntKind.u64.wrap (wrap64 (n * 4294967296) / 4294967296) * 4294967296) / 4294967296) 4 (by omega) (by omega) hu.1 hu.2 []
  have hU : uintS (be (IntKind.u64.wrap (IntKind.u64.wrap (wrap64 (n * 4294967296) / 4294967296) * 4294967296) / 4294967296) 4 ++ []) 0 4 = ((IntKind.u64.wrap (IntKind.u64.wrap (wrap64 (n * 4294967296) / 4294967296) * 4294967296) / 4294967296), [], 0) := uintS_be (IntKind.u64.wrap (IntKind.u64.wrap (wrap64 (n * 4294967296) / 4294967296) * 4294967296) / 4294967296) 4 (by omega) (by omega) hu.1 hu.2 []
  rw [List.append_nil, n_4] at hI
  rw [List.append_nil] at hU
  rw [List.nil_append] at hA
  have hlen := be_length (IntKind.u64.wrap (IntKind.u64.wrap (wrap64 (n * 4294967296) / 4294967296) * 4294967296) / 4294967296) 4
  have hby := be_bytes (IntKind.u64.wrap (IntKind.u64.wrap (wrap64 (n * 4294967296) / 4294967296) * 4294967296) / 4294967296) 4
  generalize hL : be (IntKind.u64.wrap (IntKind.u64.wrap (wrap64 (n * 4294967296) / 4294967296) * 4294967296) / 4294967296) 4 = L at hA hI hU hlen hby
  clear hL hu
  have HA := Lib.hid hA
  have HI := Lib.hid hI
  have HU := Lib.hid hU
  have HBY := Lib.hid hby
  have HLN := Lib.hid hlen
  clear hA hI hU hby hlen
  have HB := Lib.hid (Below.refl w.heap.size w)
  go_enter Try.func4, Try.ntmps4
  go_wp2_with (first
    | ((with_reducible refine gate_callee (f := 14) rfl ?_); (try (refine gate_guard (by rfl) ?_; dsimp only)); refine goesL_ _ rfl rfl Try.func14 (by kernel_rfl) rfl #[.slice none ([] : List Int).length 0, .int .u64 (IntKind.u64.wrap (IntKind.u64.wrap (wrap64 (n * 4294967296) / 4294967296) * 4294967296) / 4294967296), .int .i64 4] rfl (by (try simp only [List.map_toArray, List.map_cons, List.map_nil]); first | done | rfl) ?_; refine (wire_Append.calls none 0 [] (IntKind.u64.wrap (IntKind.u64.wrap (wrap64 (n * 4294967296) / 4294967296) * 4294967296) / 4294967296) 4 _ _ _ (Kd.C_nil _ _) (by simp) HA.out).mono ?_; rintro e w2 ⟨v2, rfl, hr2, hb2⟩; obtain ⟨A2, c2, rfl, hc2, hC2⟩ := Kd.R_reads hr2; refine ⟨_, rfl, ?_⟩; have HC2 := Lib.hid hC2; have HL2 := Lib.hid hc2; have hb := below_step HB.out hb2; clear HB; have HB := Lib.hid hb; clear hb hb2 hc2 hC2 hr2)
    | ((with_reducible refine gate_callee (f := 15) rfl ?_); (try (refine gate_guard (by rfl) ?_; dsimp only)); refine goesL_ _ rfl rfl Try.func15 (by kernel_rfl) rfl #[.slice A2 L.length c2] rfl (by (try simp only [List.map_toArray, List.map_cons, List.map_nil]); first | done | rfl) ?_; have hx := HC2.out; refine (RdA.new (w0 := w2) (Below.refl _ _) hx HL2.out (by rw [HLN.out]; omega) HBY.out).mono ?_; rintro e w3 ⟨g1, b1, rfl, hd1, hlo1, _, _⟩; refine ⟨_, rfl, ?_⟩; have HD1 := Lib.hid hd1; have hC2 := Kd.C_below hx hlo1; clear HC2; have HC3 := Lib.hid hC2; clear hd1 hlo1 hC2 hx)
    | ((with_reducible refine gate_callee (f := 15) rfl ?_); (try (refine gate_guard (by rfl) ?_; dsimp only)); refine goesL_ _ rfl rfl Try.func15 (by kernel_rfl) rfl #[.slice A2 L.length c2] rfl (by (try simp only [List.map_toArray, List.map_cons, List.map_nil]); first | done | rfl) ?_; have hx := HC3.out; have hlo := HD1.out.low; have hgl := HD1.out.g_lt; have hbl := HD1.out.b_lt; refine (RdA.new (w0 := w2) hlo hx HL2.out (by rw [HLN.out]; omega) HBY.out).mono ?_; rintro e w4 ⟨g2, b2, rfl, hd2, hlo2, hg2, hb2⟩; refine ⟨_, rfl, ?_⟩; have hd1 := HD1.out.below' hlo2; have hne : g1 ≠ g2 ∧ b1 ≠ g2 ∧ g2 ≠ g1 ∧ b2 ≠ g1 := (by refine ⟨?_, ?_, ?_, ?_⟩ <;> omega); have HNE := Lib.hid hne; clear HD1 HC3 HL2; have HD1 := Lib.hid hd1; have HD2 := Lib.hid hd2; clear hd1 hd2 hlo hgl hbl hlo2 hg2 hb2 hne hx)
    | ((with_reducible refine gate_callee (f := 16) rfl ?_); (try (refine gate_guard (by rfl) ?_; dsimp only)); refine goesL_ _ rfl rfl Try.func16 (by kernel_rfl) rfl #[.pointer (some ⟨g1, 0, none⟩), .int .i64 4] rfl (by (try simp only [List.map_toArray, List.map_cons, List.map_nil]); first | done | rfl) ?_; refine (RdA.int HD1.out 4).mono ?_; rintro e w5 ⟨rfl, hd, hu5⟩; refine ⟨_, rfl, ?_⟩; have hd2 := HD2.out.upd hu5 HD1.out.g0 HNE.out.2.2.1 HNE.out.2.2.2; clear HD1 HD2; rw [HI.out] at hd ⊢; dsimp only at hd ⊢; have HD1 := Lib.hid hd; have HD2 := Lib.hid hd2; clear hd hd2 hu5)
    | ((with_reducible refine gate_callee (f := 17) rfl ?_); (try (refine gate_guard (by rfl) ?_; dsimp only)); refine goesL_ _ rfl rfl Try.func17 (by kernel_rfl) rfl #[.pointer (some ⟨g2, 0, none⟩), .int .i64 4] rfl (by (try simp only [List.map_toArray, List.map_cons, List.map_nil]); first | done | rfl) ?_; refine (RdA.uint HD2.out 4).mono ?_; rintro e w6 ⟨rfl, hd, hu6⟩; refine ⟨_, rfl, ?_⟩; have hd1 := HD1.out.upd hu6 HD2.out.g0 HNE.out.1 HNE.out.2.1; clear HD1 HD2; rw [HU.out] at hd ⊢; dsimp only at hd ⊢; have HD1 := Lib.hid hd1; clear hd hd1 hu6)
    | ((with_reducible refine gate_callee (f := 18) rfl ?_); (try (refine gate_guard (by rfl) ?_; dsimp only)); refine goesL_ _ rfl rfl Try.func18 (by kernel_rfl) rfl #[.pointer (some ⟨g1, 0, none⟩)] rfl (by (try simp only [List.map_toArray, List.map_cons, List.map_nil]); first | done | rfl) ?_; refine (RdA.left HD1.out).mono ?_; rintro e w7 ⟨rfl, rfl⟩; refine ⟨_, rfl, ?_⟩)
    | ((with_reducible refine gate_callee (f := 19) rfl ?_); (try (refine gate_guard (by rfl) ?_; dsimp only)); refine goesL_ _ rfl rfl Try.func19 (by kernel_rfl) rfl #[.pointer (some ⟨g1, 0, none⟩)] rfl (by (try simp only [List.map_toArray, List.map_cons, List.map_nil]); first | done | rfl) ?_; refine (RdA.err HD1.out).mono ?_; rintro e w8 ⟨rfl, rfl⟩; refine ⟨_, rfl, ?_⟩)
    | ((with_reducible refine gate_callee (f := 13) rfl ?_); (try (refine gate_guard (by rfl) ?_; dsimp only)); refine goesL_ _ rfl rfl Try.func13 (by kernel_rfl) rfl #[] rfl (by (try simp only [List.map_toArray, List.map_cons, List.map_nil]); first | done | rfl) ?_; refine (awake_true _).mono ?_; rintro e w9 ⟨rfl, hb9⟩; refine ⟨_, rfl, ?_⟩; have hb := below_step (below_step HB.out HD1.out.low) hb9; clear HB HD1; have HB := Lib.hid hb; clear hb hb9)
    )
  go_ret
  exact ⟨rfl, HB.out⟩
theorem u_5 (n : Int) : 0 ≤ (IntKind.u64.wrap (IntKind.u64.wrap (wrap64 (n * 16777216) / 16777216) * 16777216) / 16777216) ∧ (IntKind.u64.wrap (IntKind.u64.wrap (wrap64 (n * 16777216) / 16777216) * 16777216) / 16777216) < 2 ^ (8 * 5) := by
  rw [show (2 : Int) ^ (8 * 5) = 1099511627776 from rfl]
  simp only [IntKind.wrap_u64]
  generalize wrap64 _ = y
  omega
theorem n_5 (n : Int) : upDown (IntKind.u64.wrap (IntKind.u64.wrap (wrap64 (n * 16777216) / 16777216) * 16777216) / 16777216) 5 = (wrap64 (n * 16777216) / 16777216) := by
  unfold upDown
  simp only [IntKind.wrap_u64, show (2 : Int) ^ (64 - 8 * 5) = 16777216 from rfl]
  unfold wrap64
  omega
set_option maxHeartbeats 2000000 in
theorem sgn_5 (n size : Int) (w : World) (hm : (IntKind.u64.wrap size).tmod 8 = 4) :
    Calls Try.prog 4 #[.int .i64 n, .int .i64 size] w fun e w' => e = .returned (.bool true) ∧ Below w.heap.size w w' := by
  have hu := u_5 n
  have hA : wire_Append.f [] (IntKind.u64.wrap (IntKind.u64.wrap (wrap64 (n * 16777216) / 16777216) * 16777216) / 16777216) 5 = some ([] ++ be (IntKind.u64.wrap (IntKind.u64.wrap (wrap64 (n * 16777216) / 16777216) * 16777216) / 16777216) 5, 0) := app_fits [] (IntKind.u64.wrap (IntKind.u64.wrap (wrap64 (n * 16777216) / 16777216) * 16777216) / 16777216) 5 (by omega) (by omega) hu.1 hu.2 (by simp)
  have hI : intS (be (IntKind.u64.wrap (IntKind.u64.wrap (wrap64 (n * 16777216) / 16777216) * 16777216) / 16777216) 5 ++ []) 0 5 = (upDown (IntKind.u64.wrap (IntKind.u64.wrap (wrap64 (n * 16777216) / 16777216) * 16777216) / 16777216) 5, [], 0) := intS_be (IntKind.u64.wrap (IntKind.u64.wrap (wrap64 (n * 16777216) / 16777216) * 16777216) / 16777216) 5 (by omega) (by omega) hu.1 hu.2 []
  have hU : uintS (be (IntKind.u64.wrap (IntKind.u64.wrap (wrap64 (n * 16777216) / 16777216) * 16777216) / 16777216) 5 ++ []) 0 5 = ((IntKind.u64.wrap (IntKind.u64.wrap (wrap64 (n * 16777216) / 16777216) * 16777216) / 16777216), [], 0) := uintS_be (IntKind.u64.wrap (IntKind.u64.wrap (wrap64 (n * 16777216) / 16777216) * 16777216) / 16777216) 5 (by omega) (by omega) hu.1 hu.2 []
  rw [List.append_nil, n_5] at hI
  rw [List.append_nil] at hU
  rw [List.nil_append] at hA
  have hlen := be_length (IntKind.u64.wrap (IntKind.u64.wrap (wrap64 (n * 16777216) / 16777216) * 16777216) / 16777216) 5
  have hby := be_bytes (IntKind.u64.wrap (IntKind.u64.wrap (wrap64 (n * 16777216) / 16777216) * 16777216) / 16777216) 5
  generalize hL : be (IntKind.u64.wrap (IntKind.u64.wrap (wrap64 (n * 16777216) / 16777216) * 16777216) / 16777216) 5 = L at hA hI hU hlen hby
  clear hL hu
  have HA := Lib.hid hA
  have HI := Lib.hid hI
  have HU := Lib.hid hU
  have HBY := Lib.hid hby
  have HLN := Lib.hid hlen
  clear hA hI hU hby hlen
  have HB := Lib.hid (Below.refl w.heap.size w)
  go_enter Try.func4, Try.ntmps4
  go_wp2_with (first
    | ((with_reducible refine gate_callee (f := 14) rfl ?_); (try (refine gate_guard (by rfl) ?_; dsimp only)); refine goesL_ _ rfl rfl Try.func14 (by kernel_rfl) rfl #[.slice none ([] : List Int).length 0, .int .u64 (IntKind.u64.wrap (IntKind.u64.wrap (wrap64 (n * 16777216) / 16777216) * 16777216) / 16777216), .int .i64 5] rfl (by (try simp only [List.map_toArray, List.map_cons, List.map_nil]); first | done | rfl) ?_; refine (wire_Append.calls none 0 [] (IntKind.u64.wrap (IntKind.u64.wrap (wrap64 (n * 16777216) / 16777216) * 16777216) / 16777216) 5 _ _ _ (Kd.C_nil _ _) (by simp) HA.out).mono ?_; rintro e w2 ⟨v2, rfl, hr2, hb2⟩; obtain ⟨A2, c2, rfl, hc2, hC2⟩ := Kd.R_reads hr2; refine ⟨_, rfl, ?_⟩; have HC2 := Lib.hid hC2; have HL2 := Lib.hid hc2; have hb := below_step HB.out hb2; clear HB; have HB := Lib.hid hb; clear hb hb2 hc2 hC2 hr2)
    | ((with_reducible refine gate_callee (f := 15) rfl ?_); (try (refine gate_guard (by rfl) ?_; dsimp only)); refine goesL_ _ rfl rfl Try.func15 (by kernel_rfl) rfl #[.slice A2 L.length c2] rfl (by (try simp only [List.map_toArray, List.map_cons, List.map_nil]); first | done | rfl) ?_; have hx := HC2.out; refine (RdA.new (w0 := w2) (Below.refl _ _) hx HL2.out (by rw [HLN.out]; omega) HBY.out).mono ?_; rintro e w3 ⟨g1, b1, rfl, hd1, hlo1, _, _⟩; refine ⟨_, rfl, ?_⟩; have HD1 := Lib.hid hd1; have hC2 := Kd.C_below hx hlo1; clear HC2; have HC3 := Lib.hid hC2; clear hd1 hlo1 hC2 hx)
    | ((with_reducible refine gate_callee (f := 15) rfl ?_); (try (refine gate_guard (by rfl) ?_; dsimp only)); refine goesL_ _ rfl rfl Try.func15 (by kernel_rfl) rfl #[.slice A2 L.length c2] rfl (by (try simp only [List.map_toArray, List.map_cons, List.map_nil]); first | done | rfl) ?_; have hx := HC3.out; have hlo := HD1.out.low; have hgl := HD1.out.g_lt; have hbl := HD1.out.b_lt; refine (RdA.new (w0 := w2) hlo hx HL2.out (by rw [HLN.out]; omega) HBY.out).mono ?_; rintro e w4 ⟨g2, b2, rfl, hd2, hlo2, hg2, hb2⟩; refine ⟨_, rfl, ?_⟩; have hd1 := HD1.out.below' hlo2; have hne : g1 ≠ g2 ∧ b1 ≠ g2 ∧ g2 ≠ g1 ∧ b2 ≠ g1 := (by refine ⟨?_, ?_, ?_, ?_⟩ <;> omega); have HNE := Lib.hid hne; clear HD1 HC3 HL2; have HD1 := Lib.hid hd1; have HD2 := Lib.hid hd2; clear hd1 hd2 hlo hgl hbl hlo2 hg2 hb2 hne hx)
    | ((with_reducible refine gate_callee (f := 16) rfl ?_); (try (refine gate_guard (by rfl) ?_; dsimp only)); refine goesL_ _ rfl rfl Try.func16 (by kernel_rfl) rfl #[.pointer (some ⟨g1, 0, none⟩), .int .i64 5] rfl (by (try simp only [List.map_toArray, List.map_cons, List.map_nil]); first | done | rfl) ?_; refine (RdA.int HD1.out 5).mono ?_; rintro e w5 ⟨rfl, hd, hu5⟩; refine ⟨_, rfl, ?_⟩; have hd2 := HD2.out.upd hu5 HD1.out.g0 HNE.out.2.2.1 HNE.out.2.2.2; clear HD1 HD2; rw [HI.out] at hd ⊢; dsimp only at hd ⊢; have HD1 := Lib.hid hd; have HD2 := Lib.hid hd2; clear hd hd2 hu5)
    | ((with_reducible refine gate_callee (f := 17) rfl ?_); (try (refine gate_guard (by rfl) ?_; dsimp only)); refine goesL_ _ rfl rfl Try.func17 (by kernel_rfl) rfl #[.pointer (some ⟨g2, 0, none⟩), .int .i64 5] rfl (by (try simp only [List.map_toArray, List.map_cons, List.map_nil]); first | done | rfl) ?_; refine (RdA.uint HD2.out 5).mono ?_; rintro e w6 ⟨rfl, hd, hu6⟩; refine ⟨_, rfl, ?_⟩; have hd1 := HD1.out.upd hu6 HD2.out.g0 HNE.out.1 HNE.out.2.1; clear HD1 HD2; rw [HU.out] at hd ⊢; dsimp only at hd ⊢; have HD1 := Lib.hid hd1; clear hd hd1 hu6)
    | ((with_reducible refine gate_callee (f := 18) rfl ?_); (try (refine gate_guard (by rfl) ?_; dsimp only)); refine goesL_ _ rfl rfl Try.func18 (by kernel_rfl) rfl #[.pointer (some ⟨g1, 0, none⟩)] rfl (by (try simp only [List.map_toArray, List.map_cons, List.map_nil]); first | done | rfl) ?_; refine (RdA.left HD1.out).mono ?_; rintro e w7 ⟨rfl, rfl⟩; refine ⟨_, rfl, ?_⟩)
    | ((with_reducible refine gate_callee (f := 19) rfl ?_); (try (refine gate_guard (by rfl) ?_; dsimp only)); refine goesL_ _ rfl rfl Try.func19 (by kernel_rfl) rfl #[.pointer (some ⟨g1, 0, none⟩)] rfl (by (try simp only [List.map_toArray, List.map_cons, List.map_nil]); first | done | rfl) ?_; refine (RdA.err HD1.out).mono ?_; rintro e w8 ⟨rfl, rfl⟩; refine ⟨_, rfl, ?_⟩)
    | ((with_reducible refine gate_callee (f := 13) rfl ?_); (try (refine gate_guard (by rfl) ?_; dsimp only)); refine goesL_ _ rfl rfl Try.func13 (by kernel_rfl) rfl #[] rfl (by (try simp only [List.map_toArray, List.map_cons, List.map_nil]); first | done | rfl) ?_; refine (awake_true _).mono ?_; rintro e w9 ⟨rfl, hb9⟩; refine ⟨_, rfl, ?_⟩; have hb := below_step (below_step HB.out HD1.out.low) hb9; clear HB HD1; have HB := Lib.hid hb; clear hb hb9)
    )
  go_ret
  exact ⟨rfl, HB.out⟩
theorem u_6 (n : Int) : 0 ≤ (IntKind.u64.wrap (IntKind.u64.wrap (wrap64 (n * 65536) / 65536) * 65536) / 65536) ∧ (IntKind.u64.wrap (IntKind.u64.wrap (wrap64 (n * 65536) / 65536) * 65536) / 65536) < 2 ^ (8 * 6) := by
  rw [show (2 : Int) ^ (8 * 6) = 281474976710656 from rfl]
  simp only [IntKind.wrap_u64]
  generalize wrap64 _ = y
  omega
theorem n_6 (n : Int) : upDown (IntKind.u64.wrap (IntKind.u64.wrap (wrap64 (n * 65536) / 65536) * 65536) / 65536) 6 = (wrap64 (n * 65536) / 65536) := by
  unfold upDown
  simp only [IntKind.wrap_u64, show (2 : Int) ^ (64 - 8 * 6) = 65536 from rfl]
  unfold wrap64
  omega
set_option maxHeartbeats 2000000 in
theorem sgn_6 (n size : Int) (w : World) (hm : (IntKind.u64.wrap size).tmod 8 = 5) :
    Calls Try.prog 4 #[.int .i64 n, .int .i64 size] w fun e w' => e = .returned (.bool true) ∧ Below w.heap.size w w' := by
  have hu := u_6 n
  have hA : wire_Append.f [] (IntKind.u64.wrap (IntKind.u64.wrap (wrap64 (n * 65536) / 65536) * 65536) / 65536) 6 = some ([] ++ be (IntKind.u64.wrap (IntKind.u64.wrap (wrap64 (n * 65536) / 65536) * 65536) / 65536) 6, 0) := app_fits [] (IntKind.u64.wrap (IntKind.u64.wrap (wrap64 (n * 65536) / 65536) * 65536) / 65536) 6 (by omega) (by omega) hu.1 hu.2 (by simp)
  have hI : intS (be (IntKind.u64.wrap (IntKind.u64.wrap (wrap64 (n * 65536) / 65536) * 65536) / 65536) 6 ++ []) 0 6 = (upDown (IntKind.u64.wrap (IntKind.u64.wrap (wrap64 (n * 65536) / 65536) * 65536) / 65536) 6, [], 0) := intS_be (IntKind.u64.wrap (IntKind.u64.wrap (wrap64 (n * 65536) / 65536) * 65536) / 65536) 6 (by omega) (by omega) hu.1 hu.2 []
  have hU : uintS (be (IntKind.u64.wrap (IntKind.u64.wrap (wrap64 (n * 65536) / 65536) * 65536) / 65536) 6 ++ []) 0 6 = ((IntKind.u64.wrap (IntKind.u64.wrap (wrap64 (n * 65536) / 65536) * 65536) / 65536), [], 0) := uintS_be (IntKind.u64.wrap (IntKind.u64.wrap (wrap64 (n * 65536) / 65536) * 65536) / 65536) 6 (by omega) (by omega) hu.1 hu.2 []
  rw [List.append_nil, n_6] at hI
  rw [List.append_nil] at hU
  rw [List.nil_append] at hA
  have hlen := be_length (IntKind.u64.wrap (IntKind.u64.wrap (wrap64 (n * 65536) / 65536) * 65536) / 65536) 6
  have hby := be_bytes (IntKind.u64.wrap (IntKind.u64.wrap (wrap64 (n * 65536) / 65536) * 65536) / 65536) 6
  generalize hL : be (IntKind.u64.wrap (IntKind.u64.wrap (wrap64 (n * 65536) / 65536) * 65536) / 65536) 6 = L at hA hI hU hlen hby
  clear hL hu
  have HA := Lib.hid hA
  have HI := Lib.hid hI
  have HU := Lib.hid hU
  have HBY := Lib.hid hby
  have HLN := Lib.hid hlen
  clear hA hI hU hby hlen
  have HB := Lib.hid (Below.refl w.heap.size w)
  go_enter Try.func4, Try.ntmps4
  go_wp2_with (first
    | ((with_reducible refine gate_callee (f := 14) rfl ?_); (try (refine gate_guard (by rfl) ?_; dsimp only)); refine goesL_ _ rfl rfl Try.func14 (by kernel_rfl) rfl #[.slice none ([] : List Int).length 0, .int .u64 (IntKind.u64.wrap (IntKind.u64.wrap (wrap64 (n * 65536) / 65536) * 65536) / 65536), .int .i64 6] rfl (by (try simp only [List.map_toArray, List.map_cons, List.map_nil]); first | done | rfl) ?_; refine (wire_Append.calls none 0 [] (IntKind.u64.wrap (IntKind.u64.wrap (wrap64 (n * 65536) / 65536) * 65536) / 65536) 6 _ _ _ (Kd.C_nil _ _) (by simp) HA.out).mono ?_; rintro e w2 ⟨v2, rfl, hr2, hb2⟩; obtain ⟨A2, c2, rfl, hc2, hC2⟩ := Kd.R_reads hr2; refine ⟨_, rfl, ?_⟩; have HC2 := Lib.hid hC2; have HL2 := Lib.hid hc2; have hb := below_step HB.out hb2; clear HB; have HB := Lib.hid hb; clear hb hb2 hc2 hC2 hr2)
    | ((with_reducible refine gate_callee (f := 15) rfl ?_); (try (refine gate_guard (by rfl) ?_; dsimp only)); refine goesL_ _ rfl rfl Try.func15 (by kernel_rfl) rfl #[.slice A2 L.length c2] rfl (by (try simp only [List.map_toArray, List.map_cons, List.map_nil]); first | done | rfl) ?_; have hx := HC2.out; refine (RdA.new (w0 := w2) (Below.refl _ _) hx HL2.out (by rw [HLN.out]; omega) HBY.out).mono ?_; rintro e w3 ⟨g1, b1, rfl, hd1, hlo1, _, _⟩; refine ⟨_, rfl, ?_⟩; have HD1 := Lib.hid hd1; have hC2 := Kd.C_below hx hlo1; clear HC2; have HC3 := Lib.hid hC2; clear hd1 hlo1 hC2 hx)
    | ((with_reducible refine gate_callee (f := 15) rfl ?_); (try (refine gate_guard (by rfl) ?_; dsimp only)); refine goesL_ _ rfl rfl Try.func15 (by kernel_rfl) rfl #[.slice A2 L.length c2] rfl (by (try simp only [List.map_toArray, List.map_cons, List.map_nil]); first | done | rfl) ?_; have hx := HC3.out; have hlo := HD1.out.low; have hgl := HD1.out.g_lt; have hbl := HD1.out.b_lt; refine (RdA.new (w0 := w2) hlo hx HL2.out (by rw [HLN.out]; omega) HBY.out).mono ?_; rintro e w4 ⟨g2, b2, rfl, hd2, hlo2, hg2, hb2⟩; refine ⟨_, rfl, ?_⟩; have hd1 := HD1.out.below' hlo2; have hne : g1 ≠ g2 ∧ b1 ≠ g2 ∧ g2 ≠ g1 ∧ b2 ≠ g1 := (by refine ⟨?_, ?_, ?_, ?_⟩ <;> omega); have HNE := Lib.hid hne; clear HD1 HC3 HL2; have HD1 := Lib.hid hd1; have HD2 := Lib.hid hd2; clear hd1 hd2 hlo hgl hbl hlo2 hg2 hb2 hne hx)
    | ((with_reducible refine gate_callee (f := 16) rfl ?_); (try (refine gate_guard (by rfl) ?_; dsimp only)); refine goesL_ _ rfl rfl Try.func16 (by kernel_rfl) rfl #[.pointer (some ⟨g1, 0, none⟩), .int .i64 6] rfl (by (try simp only [List.map_toArray, List.map_cons, List.map_nil]); first | done | rfl) ?_; refine (RdA.int HD1.out 6).mono ?_; rintro e w5 ⟨rfl, hd, hu5⟩; refine ⟨_, rfl, ?_⟩; have hd2 := HD2.out.upd hu5 HD1.out.g0 HNE.out.2.2.1 HNE.out.2.2.2; clear HD1 HD2; rw [HI.out] at hd ⊢; dsimp only at hd ⊢; have HD1 := Lib.hid hd; have HD2 := Lib.hid hd2; clear hd hd2 hu5)
    | ((with_reducible refine gate_callee (f := 17) rfl ?_); (try (refine gate_guard (by rfl) ?_; dsimp only)); refine goesL_ _ rfl rfl Try.func17 (by kernel_rfl) rfl #[.pointer (some ⟨g2, 0, none⟩), .int .i64 6] rfl (by (try simp only [List.map_toArray, List.map_cons, List.map_nil]); first | done | rfl) ?_; refine (RdA.uint HD2.out 6).mono ?_; rintro e w6 ⟨rfl, hd, hu6⟩; refine ⟨_, rfl, ?_⟩; have hd1 := HD1.out.upd hu6 HD2.out.g0 HNE.out.1 HNE.out.2.1; clear HD1 HD2; rw [HU.out] at hd ⊢; dsimp only at hd ⊢; have HD1 := Lib.hid hd1; clear hd hd1 hu6)
    | ((with_reducible refine gate_callee (f := 18) rfl ?_); (try (refine gate_guard (by rfl) ?_; dsimp only)); refine goesL_ _ rfl rfl Try.func18 (by kernel_rfl) rfl #[.pointer (some ⟨g1, 0, none⟩)] rfl (by (try simp only [List.map_toArray, List.map_cons, List.map_nil]); first | done | rfl) ?_; refine (RdA.left HD1.out).mono ?_; rintro e w7 ⟨rfl, rfl⟩; refine ⟨_, rfl, ?_⟩)
    | ((with_reducible refine gate_callee (f := 19) rfl ?_); (try (refine gate_guard (by rfl) ?_; dsimp only)); refine goesL_ _ rfl rfl Try.func19 (by kernel_rfl) rfl #[.pointer (some ⟨g1, 0, none⟩)] rfl (by (try simp only [List.map_toArray, List.map_cons, List.map_nil]); first | done | rfl) ?_; refine (RdA.err HD1.out).mono ?_; rintro e w8 ⟨rfl, rfl⟩; refine ⟨_, rfl, ?_⟩)
    | ((with_reducible refine gate_callee (f := 13) rfl ?_); (try (refine gate_guard (by rfl) ?_; dsimp only)); refine goesL_ _ rfl rfl Try.func13 (by kernel_rfl) rfl #[] rfl (by (try simp only [List.map_toArray, List.map_cons, List.map_nil]); first | done | rfl) ?_; refine (awake_true _).mono ?_; rintro e w9 ⟨rfl, hb9⟩; refine ⟨_, rfl, ?_⟩; have hb := below_step (below_step HB.out HD1.out.low) hb9; clear HB HD1; have HB := Lib.hid hb; clear hb hb9)
    )
  go_ret
  exact ⟨rfl, HB.out⟩
theorem u_7 (n : Int) : 0 ≤ (IntKind.u64.wrap (IntKind.u64.wrap (wrap64 (n * 256) / 256) * 256) / 256) ∧ (IntKind.u64.wrap (IntKind.u64.wrap (wrap64 (n * 256) / 256) * 256) / 256) < 2 ^ (8 * 7) := by
  rw [show (2 : Int) ^ (8 * 7) = 72057594037927936 from rfl]
  simp only [IntKind.wrap_u64]
  generalize wrap64 _ = y
  omega
theorem n_7 (n : Int) : upDown (IntKind.u64.wrap (IntKind.u64.wrap (wrap64 (n * 256) / 256) * 256) / 256) 7 = (wrap64 (n * 256) / 256) := by
  unfold upDown
  simp only [IntKind.wrap_u64, show (2 : Int) ^ (64 - 8 * 7) = 256 from rfl]
  unfold wrap64
  omega
set_option maxHeartbeats 2000000 in
theorem sgn_7 (n size : Int) (w : World) (hm : (IntKind.u64.wrap size).tmod 8 = 6) :
    Calls Try.prog 4 #[.int .i64 n, .int .i64 size] w fun e w' => e = .returned (.bool true) ∧ Below w.heap.size w w' := by
  have hu := u_7 n
  have hA : wire_Append.f [] (IntKind.u64.wrap (IntKind.u64.wrap (wrap64 (n * 256) / 256) * 256) / 256) 7 = some ([] ++ be (IntKind.u64.wrap (IntKind.u64.wrap (wrap64 (n * 256) / 256) * 256) / 256) 7, 0) := app_fits [] (IntKind.u64.wrap (IntKind.u64.wrap (wrap64 (n * 256) / 256) * 256) / 256) 7 (by omega) (by omega) hu.1 hu.2 (by simp)
  have hI : intS (be (IntKind.u64.wrap (IntKind.u64.wrap (wrap64 (n * 256) / 256) * 256) / 256) 7 ++ []) 0 7 = (upDown (IntKind.u64.wrap (IntKind.u64.wrap (wrap64 (n * 256) / 256) * 256) / 256) 7, [], 0) := intS_be (IntKind.u64.wrap (IntKind.u64.wrap (wrap64 (n * 256) / 256) * 256) / 256) 7 (by omega) (by omega) hu.1 hu.2 []
  have hU : uintS (be (IntKind.u64.wrap (IntKind.u64.wrap (wrap64 (n * 256) / 256) * 256) / 256) 7 ++ []) 0 7 = ((IntKind.u64.wrap (IntKind.u64.wrap (wrap64 (n * 256) / 256) * 256) / 256), [], 0) := uintS_be (IntKind.u64.wrap (IntKind.u64.wrap (wrap64 (n * 256) / 256) * 256) / 256) 7 (by omega) (by omega) hu.1 hu.2 []
  rw [List.append_nil, n_7] at hI
  rw [List.append_nil] at hU
  rw [List.nil_append] at hA
  have hlen := be_length (IntKind.u64.wrap (IntKind.u64.wrap (wrap64 (n * 256) / 256) * 256) / 256) 7
  have hby := be_bytes (IntKind.u64.wrap (IntKind.u64.wrap (wrap64 (n * 256) / 256) * 256) / 256) 7
  generalize hL : be (IntKind.u64.wrap (IntKind.u64.wrap (wrap64 (n * 256) / 256) * 256) / 256) 7 = L at hA hI hU hlen hby
  clear hL hu
  have HA := Lib.hid hA
  have HI := Lib.hid hI
  have HU := Lib.hid hU
  have HBY := Lib.hid hby
  have HLN := Lib.hid hlen
  clear hA hI hU hby hlen
  have HB := Lib.hid (Below.refl w.heap.size w)
  go_enter Try.func4, Try.ntmps4
  go_wp2_with (first
    | ((with_reducible refine gate_callee (f := 14) rfl ?_); (try (refine gate_guard (by rfl) ?_; dsimp only)); refine goesL_ _ rfl rfl Try.func14 (by kernel_rfl) rfl #[.slice none ([] : List Int).length 0, .int .u64 (IntKind.u64.wrap (IntKind.u64.wrap (wrap64 (n * 256) / 256) * 256) / 256), .int .i64 7] rfl (by (try simp only [List.map_toArray, List.map_cons, List.map_nil]); first | done | rfl) ?_; refine (wire_Append.calls none 0 [] (IntKind.u64.wrap (IntKind.u64.wrap (wrap64 (n * 256) / 256) * 256) / 256) 7 _ _ _ (Kd.C_nil _ _) (by simp) HA.out).mono ?_; rintro e w2 ⟨v2, rfl, hr2, hb2⟩; obtain ⟨A2, c2, rfl, hc2, hC2⟩ := Kd.R_reads hr2; refine ⟨_, rfl, ?_⟩; have HC2 := Lib.hid hC2; have HL2 := Lib.hid hc2; have hb := below_step HB.out hb2; clear HB; have HB := Lib.hid hb; clear hb hb2 hc2 hC2 hr2)
    | ((with_reducible refine gate_callee (f := 15) rfl ?_); (try (refine gate_guard (by rfl) ?_; dsimp only)); refine goesL_ _ rfl rfl Try.func15 (by kernel_rfl) rfl #[.slice A2 L.length c2] rfl (by (try simp only [List.map_toArray, List.map_cons, List.map_nil]); first | done | rfl) ?_; have hx := HC2.out; refine (RdA.new (w0 := w2) (Below.refl _ _) hx HL2.out (by rw [HLN.out]; omega) HBY.out).mono ?_; rintro e w3 ⟨g1, b1, rfl, hd1, hlo1, _, _⟩; refine ⟨_, rfl, ?_⟩; have HD1 := Lib.hid hd1; have hC2 := Kd.C_below hx hlo1; clear HC2; have HC3 := Lib.hid hC2; clear hd1 hlo1 hC2 hx)
    | ((with_reducible refine gate_callee (f := 15) rfl ?_); (try (refine gate_guard (by rfl) ?_; dsimp only)); refine goesL_ _ rfl rfl Try.func15 (by kernel_rfl) rfl #[.slice A2 L.length c2] rfl (by (try simp only [List.map_toArray, List.map_cons, List.map_nil]); first | done | rfl) ?_; have hx := HC3.out; have hlo := HD1.out.low; have hgl := HD1.out.g_lt; have hbl := HD1.out.b_lt; refine (RdA.new (w0 := w2) hlo hx HL2.out (by rw [HLN.out]; omega) HBY.out).mono ?_; rintro e w4 ⟨g2, b2, rfl, hd2, hlo2, hg2, hb2⟩; refine ⟨_, rfl, ?_⟩; have hd1 := HD1.out.below' hlo2; have hne : g1 ≠ g2 ∧ b1 ≠ g2 ∧ g2 ≠ g1 ∧ b2 ≠ g1 := (by refine ⟨?_, ?_, ?_, ?_⟩ <;> omega); have HNE := Lib.hid hne; clear HD1 HC3 HL2; have HD1 := Lib.hid hd1; have HD2 := Lib.hid hd2; clear hd1 hd2 hlo hgl hbl hlo2 hg2 hb2 hne hx)
    | ((with_reducible refine gate_callee (f := 16) rfl ?_); (try (refine gate_guard (by rfl) ?_; dsimp only)); refine goesL_ _ rfl rfl Try.func16 (by kernel_rfl) rfl #[.pointer (some ⟨g1, 0, none⟩), .int .i64 7] rfl (by (try simp only [List.map_toArray, List.map_cons, List.map_nil]); first | done | rfl) ?_; refine (RdA.int HD1.out 7).mono ?_; rintro e w5 ⟨rfl, hd, hu5⟩; refine ⟨_, rfl, ?_⟩; have hd2 := HD2.out.upd hu5 HD1.out.g0 HNE.out.2.2.1 HNE.out.2.2.2; clear HD1 HD2; rw [HI.out] at hd ⊢; dsimp only at hd ⊢; have HD1 := Lib.hid hd; have HD2 := Lib.hid hd2; clear hd hd2 hu5)
    | ((with_reducible refine gate_callee (f := 17) rfl ?_); (try (refine gate_guard (by rfl) ?_; dsimp only)); refine goesL_ _ rfl rfl Try.func17 (by kernel_rfl) rfl #[.pointer (some ⟨g2, 0, none⟩), .int .i64 7] rfl (by (try simp only [List.map_toArray, List.map_cons, List.map_nil]); first | done | rfl) ?_; refine (RdA.uint HD2.out 7).mono ?_; rintro e w6 ⟨rfl, hd, hu6⟩; refine ⟨_, rfl, ?_⟩; have hd1 := HD1.out.upd hu6 HD2.out.g0 HNE.out.1 HNE.out.2.1; clear HD1 HD2; rw [HU.out] at hd ⊢; dsimp only at hd ⊢; have HD1 := Lib.hid hd1; clear hd hd1 hu6)
    | ((with_reducible refine gate_callee (f := 18) rfl ?_); (try (refine gate_guard (by rfl) ?_; dsimp only)); refine goesL_ _ rfl rfl Try.func18 (by kernel_rfl) rfl #[.pointer (some ⟨g1, 0, none⟩)] rfl (by (try simp only [List.map_toArray, List.map_cons, List.map_nil]); first | done | rfl) ?_; refine (RdA.left HD1.out).mono ?_; rintro e w7 ⟨rfl, rfl⟩; refine ⟨_, rfl, ?_⟩)
    | ((with_reducible refine gate_callee (f := 19) rfl ?_); (try (refine gate_guard (by rfl) ?_; dsimp only)); refine goesL_ _ rfl rfl Try.func19 (by kernel_rfl) rfl #[.pointer (some ⟨g1, 0, none⟩)] rfl (by (try simp only [List.map_toArray, List.map_cons, List.map_nil]); first | done | rfl) ?_; refine (RdA.err HD1.out).mono ?_; rintro e w8 ⟨rfl, rfl⟩; refine ⟨_, rfl, ?_⟩)
    | ((with_reducible refine gate_callee (f := 13) rfl ?_); (try (refine gate_guard (by rfl) ?_; dsimp only)); refine goesL_ _ rfl rfl Try.func13 (by kernel_rfl) rfl #[] rfl (by (try simp only [List.map_toArray, List.map_cons, List.map_nil]); first | done | rfl) ?_; refine (awake_true _).mono ?_; rintro e w9 ⟨rfl, hb9⟩; refine ⟨_, rfl, ?_⟩; have hb := below_step (below_step HB.out HD1.out.low) hb9; clear HB HD1; have HB := Lib.hid hb; clear hb hb9)
    )
  go_ret
  exact ⟨rfl, HB.out⟩
theorem u_8 (n : Int) : 0 ≤ (IntKind.u64.wrap (IntKind.u64.wrap (wrap64 n))) ∧ (IntKind.u64.wrap (IntKind.u64.wrap (wrap64 n))) < 2 ^ (8 * 8) := by
  rw [show (2 : Int) ^ (8 * 8) = 18446744073709551616 from rfl]
  simp only [IntKind.wrap_u64]
  generalize wrap64 _ = y
  omega
theorem n_8 (n : Int) : upDown (IntKind.u64.wrap (IntKind.u64.wrap (wrap64 n))) 8 = (wrap64 n) := by
  unfold upDown
  simp only [IntKind.wrap_u64, show (2 : Int) ^ (64 - 8 * 8) = 1 from rfl]
  unfold wrap64
  omega
set_option maxHeartbeats 2000000 in
theorem sgn_8 (n size : Int) (w : World) (hm : (IntKind.u64.wrap size).tmod 8 = 7) :
    Calls Try.prog 4 #[.int .i64 n, .int .i64 size] w fun e w' => e = .returned (.bool true) ∧ Below w.heap.size w w' := by
  have hu := u_8 n
  have hA : wire_Append.f [] (IntKind.u64.wrap (IntKind.u64.wrap (wrap64 n))) 8 = some ([] ++ be (IntKind.u64.wrap (IntKind.u64.wrap (wrap64 n))) 8, 0) := app_fits [] (IntKind.u64.wrap (IntKind.u64.wrap (wrap64 n))) 8 (by omega) (by omega) hu.1 hu.2 (by simp)
  have hI : intS (be (IntKind.u64.wrap (IntKind.u64.wrap (wrap64 n))) 8 ++ []) 0 8 = (upDown (IntKind.u64.wrap (IntKind.u64.wrap (wrap64 n))) 8, [], 0) := intS_be (IntKind.u64.wrap (IntKind.u64.wrap (wrap64 n))) 8 (by omega) (by omega) hu.1 hu.2 []
  have hU : uintS (be (IntKind.u64.wrap (IntKind.u64.wrap (wrap64 n))) 8 ++ []) 0 8 = ((IntKind.u64.wrap (IntKind.u64.wrap (wrap64 n))), [], 0) := uintS_be (IntKind.u64.wrap (IntKind.u64.wrap (wrap64 n))) 8 (by omega) (by omega) hu.1 hu.2 []
  rw [List.append_nil, n_8] at hI
  rw [List.append_nil] at hU
  rw [List.nil_append] at hA
  have hlen := be_length (IntKind.u64.wrap (IntKind.u64.wrap (wrap64 n))) 8
  have hby := be_bytes (IntKind.u64.wrap (IntKind.u64.wrap (wrap64 n))) 8
  generalize hL : be (IntKind.u64.wrap (IntKind.u64.wrap (wrap64 n))) 8 = L at hA hI hU hlen hby
  clear hL hu
  have HA := Lib.hid hA
  have HI := Lib.hid hI
  have HU := Lib.hid hU
  have HBY := Lib.hid hby
  have HLN := Lib.hid hlen
  clear hA hI hU hby hlen
  have HB := Lib.hid (Below.refl w.heap.size w)
  go_enter Try.func4, Try.ntmps4
  go_wp2_with (first
    | ((with_reducible refine gate_callee (f := 14) rfl ?_); (try (refine gate_guard (by rfl) ?_; dsimp only)); refine goesL_ _ rfl rfl Try.func14 (by kernel_rfl) rfl #[.slice none ([] : List Int).length 0, .int .u64 (IntKind.u64.wrap (IntKind.u64.wrap (wrap64 n))), .int .i64 8] rfl (by (try simp only [List.map_toArray, List.map_cons, List.map_nil]); first | done | rfl) ?_; refine (wire_Append.calls none 0 [] (IntKind.u64.wrap (IntKind.u64.wrap (wrap64 n))) 8 _ _ _ (Kd.C_nil _ _) (by simp) HA.out).mono ?_; rintro e w2 ⟨v2, rfl, hr2, hb2⟩; obtain ⟨A2, c2, rfl, hc2, hC2⟩ := Kd.R_reads hr2; refine ⟨_, rfl, ?_⟩; have HC2 := Lib.hid hC2; have HL2 := Lib.hid hc2; have hb := below_step HB.out hb2; clear HB; have HB := Lib.hid hb; clear hb hb2 hc2 hC2 hr2)
    | ((with_reducible refine gate_callee (f := 15) rfl ?_); (try (refine gate_guard (by rfl) ?_; dsimp only)); refine goesL_ _ rfl rfl Try.func15 (by kernel_rfl) rfl #[.slice A2 L.length c2] rfl (by (try simp only [List.map_toArray, List.map_cons, List.map_nil]); first | done | rfl) ?_; have hx := HC2.out; refine (RdA.new (w0 := w2) (Below.refl _ _) hx HL2.out (by rw [HLN.out]; omega) HBY.out).mono ?_; rintro e w3 ⟨g1, b1, rfl, hd1, hlo1, _, _⟩; refine ⟨_, rfl, ?_⟩; have HD1 := Lib.hid hd1; have hC2 := Kd.C_below hx hlo1; clear HC2; have HC3 := Lib.hid hC2; clear hd1 hlo1 hC2 hx)
    | ((with_reducible refine gate_callee (f := 15) rfl ?_); (try (refine gate_guard (by rfl) ?_; dsimp only)); refine goesL_ _ rfl rfl Try.func15 (by kernel_rfl) rfl #[.slice A2 L.length c2] rfl (by (try simp only [List.map_toArray, List.map_cons, List.map_nil]); first | done | rfl) ?_; have hx := HC3.out; have hlo := HD1.out.low; have hgl := HD1.out.g_lt; have hbl := HD1.out.b_lt; refine (RdA.new (w0 := w2) hlo hx HL2.out (by rw [HLN.out]; omega) HBY.out).mono ?_; rintro e w4 ⟨g2, b2, rfl, hd2, hlo2, hg2, hb2⟩; refine ⟨_, rfl, ?_⟩; have hd1 := HD1.out.below' hlo2; have hne : g1 ≠ g2 ∧ b1 ≠ g2 ∧ g2 ≠ g1 ∧ b2 ≠ g1 := (by refine ⟨?_, ?_, ?_, ?_⟩ <;> omega); have HNE := Lib.hid hne; clear HD1 HC3 HL2; have HD1 := Lib.hid hd1; have HD2 := Lib.hid hd2; clear hd1 hd2 hlo hgl hbl hlo2 hg2 hb2 hne hx)
    | ((with_reducible refine gate_callee (f := 16) rfl ?_); (try (refine gate_guard (by rfl) ?_; dsimp only)); refine goesL_ _ rfl rfl Try.func16 (by kernel_rfl) rfl #[.pointer (some ⟨g1, 0, none⟩), .int .i64 8] rfl (by (try simp only [List.map_toArray, List.map_cons, List.map_nil]); first | done | rfl) ?_; refine (RdA.int HD1.out 8).mono ?_; rintro e w5 ⟨rfl, hd, hu5⟩; refine ⟨_, rfl, ?_⟩; have hd2 := HD2.out.upd hu5 HD1.out.g0 HNE.out.2.2.1 HNE.out.2.2.2; clear HD1 HD2; rw [HI.out] at hd ⊢; dsimp only at hd ⊢; have HD1 := Lib.hid hd; have HD2 := Lib.hid hd2; clear hd hd2 hu5)
    | ((with_reducible refine gate_callee (f := 17) rfl ?_); (try (refine gate_guard (by rfl) ?_; dsimp only)); refine goesL_ _ rfl rfl Try.func17 (by kernel_rfl) rfl #[.pointer (some ⟨g2, 0, none⟩), .int .i64 8] rfl (by (try simp only [List.map_toArray, List.map_cons, List.map_nil]); first | done | rfl) ?_; refine (RdA.uint HD2.out 8).mono ?_; rintro e w6 ⟨rfl, hd, hu6⟩; refine ⟨_, rfl, ?_⟩; have hd1 := HD1.out.upd hu6 HD2.out.g0 HNE.out.1 HNE.out.2.1; clear HD1 HD2; rw [HU.out] at hd ⊢; dsimp only at hd ⊢; have HD1 := Lib.hid hd1; clear hd hd1 hu6)
    | ((with_reducible refine gate_callee (f := 18) rfl ?_); (try (refine gate_guard (by rfl) ?_; dsimp only)); refine goesL_ _ rfl rfl Try.func18 (by kernel_rfl) rfl #[.pointer (some ⟨g1, 0, none⟩)] rfl (by (try simp only [List.map_toArray, List.map_cons, List.map_nil]); first | done | rfl) ?_; refine (RdA.left HD1.out).mono ?_; rintro e w7 ⟨rfl, rfl⟩; refine ⟨_, rfl, ?_⟩)
    | ((with_reducible refine gate_callee (f := 19) rfl ?_); (try (refine gate_guard (by rfl) ?_; dsimp only)); refine goesL_ _ rfl rfl Try.func19 (by kernel_rfl) rfl #[.pointer (some ⟨g1, 0, none⟩)] rfl (by (try simp only [List.map_toArray, List.map_cons, List.map_nil]); first | done | rfl) ?_; refine (RdA.err HD1.out).mono ?_; rintro e w8 ⟨rfl, rfl⟩; refine ⟨_, rfl, ?_⟩)
    | ((with_reducible refine gate_callee (f := 13) rfl ?_); (try (refine gate_guard (by rfl) ?_; dsimp only)); refine goesL_ _ rfl rfl Try.func13 (by kernel_rfl) rfl #[] rfl (by (try simp only [List.map_toArray, List.map_cons, List.map_nil]); first | done | rfl) ?_; refine (awake_true _).mono ?_; rintro e w9 ⟨rfl, hb9⟩; refine ⟨_, rfl, ?_⟩; have hb := below_step (below_step HB.out HD1.out.low) hb9; clear HB HD1; have HB := Lib.hid hb; clear hb hb9)
    )
  go_ret
  exact ⟨rfl, HB.out⟩
def timesynclaw02_WireSigned.f (a0 a1 : Int) : Option Bool := some true
theorem timesynclaw02_WireSigned.calls (a0 : Int) (a1 : Int) (r : Bool) (w : World) (h : timesynclaw02_WireSigned.f a0 a1 = some r) :
    Calls Try.prog 4 #[.int .i64 a0, .int .i64 a1] w fun e w' => e = .returned (.bool r) ∧ Below w.heap.size w w' := by
  unfold timesynclaw02_WireSigned.f at h
  obtain rfl := Option.some.inj h
  have hm : (IntKind.u64.wrap a1).tmod 8 = 0 ∨ (IntKind.u64.wrap a1).tmod 8 = 1 ∨ (IntKind.u64.wrap a1).tmod 8 = 2 ∨ (IntKind.u64.wrap a1).tmod 8 = 3 ∨ (IntKind.u64.wrap a1).tmod 8 = 4 ∨ (IntKind.u64.wrap a1).tmod 8 = 5 ∨ (IntKind.u64.wrap a1).tmod 8 = 6 ∨ (IntKind.u64.wrap a1).tmod 8 = 7 := by
    rw [IntKind.wrap_u64, Int.tmod_eq_emod_of_nonneg (by omega)]
    omega
  rcases hm with hm | hm | hm | hm | hm | hm | hm | hm
  · exact sgn_1 a0 a1 w hm
  · exact sgn_2 a0 a1 w hm
  · exact sgn_3 a0 a1 w hm
  · exact sgn_4 a0 a1 w hm
  · exact sgn_5 a0 a1 w hm
  · exact sgn_6 a0 a1 w hm
  · exact sgn_7 a0 a1 w hm
  · exact sgn_8 a0 a1 w hm
end Go.Proofs.Yteiogfmfcmfpjaa.P
