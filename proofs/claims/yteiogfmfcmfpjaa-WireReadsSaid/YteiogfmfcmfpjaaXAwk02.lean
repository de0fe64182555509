/- The examples of the chapter. -/
import Derived.Test.YteiogfmfcmfpjaaXRdA
import Derived.Test.YteiogfmfcmfpjaaPx10
import Derived.Test.YteiogfmfcmfpjaaPx2
namespace Go.Proofs.Yteiogfmfcmfpjaa.P
set_option linter.unusedVariables false
set_option linter.unusedSimpArgs false
open Go.RowKit Go.Proofs.YteiogfmfcmfpjaaW.PrintWords Go.Proofs.YteiogfmfcmfpjaaW.PrintLast Go.Proofs.YteiogfmfcmfpjaaW.PrintMore Go.Proofs.Yteiogfmfcmfpjaa.Rd

def timesynclaw02_awake.f : Option Bool := some true
set_option maxHeartbeats 1000000 in
theorem awake_true (w : World) : Calls Try.prog 13 #[] w fun e w' => e = .returned (.bool true) ∧ Below w.heap.size w w' := by
  have hA1 : wire_Append.f [7] 258 2 = some ([7, 1, 2], 0) := by decide +kernel
  have hA2 : wire_Append.f [] 16777216 3 = some ([], 3) := by decide +kernel
  have hG : wire_Get.f 10 [7, 1, 2] 1 2 = some (258, 0) := by decide +kernel
  have hE : slices_Equal_byte_byte.f 10 [7, 1, 2] [7, 1, 2] = some true := by decide +kernel
  have hI : intS [255, 254, 5] 0 2 = (-2, [5], 0) := by decide +kernel
  have hU : uintS [5] 0 2 = (0, [5], 5) := by decide +kernel
  have HB := Lib.hid (Below.refl w.heap.size w)
  go_enter Try.func13, Try.ntmps13
  go_wp2_with (first
    | ((with_reducible refine gate_dst (N := 12) rfl ?_); refine lit_bytes ?hg (N := 12) ?hd [7] (by simp) ?hr ?_; (case hd => rfl); (case hg => rfl); (case hr => first | (go_simp; done) | (go_simp; rfl)); intro A1 c1 w1 hc1 hC1 hb1; have HC1 := Lib.hid hC1; have HL1 := Lib.hid hc1; have hb := below_step HB.out hb1; clear HB; have HB := Lib.hid hb; clear hb hb1 hc1 hC1)
    | ((with_reducible refine gate_callee (f := 14) rfl ?_); refine goesL_ _ rfl rfl Try.func14 (by kernel_rfl) rfl #[.slice A1 ([7] : List Int).length c1, .int .u64 258, .int .i64 2] rfl (by (try simp only [List.map_toArray, List.map_cons, List.map_nil]); first | done | rfl) ?_; refine (wire_Append.calls A1 c1 [7] 258 2 _ _ _ HC1.out HL1.out hA1).mono ?_; rintro e w2 ⟨v2, rfl, hr2, hb2⟩; obtain ⟨A2, c2, rfl, hc2, hC2⟩ := Kd.R_reads hr2; refine ⟨_, rfl, ?_⟩; have HC2 := Lib.hid hC2; have HL2 := Lib.hid hc2; have hb := below_step HB.out hb2; clear HB; have HB := Lib.hid hb; clear hb hb2 hc2 hC2 hr2 HC1 HL1)
    | ((with_reducible refine gate_dst (N := 17) rfl ?_); refine lit_bytes ?hg (N := 17) ?hd [7, 1, 2] (by simp) ?hr ?_; (case hd => rfl); (case hg => rfl); (case hr => first | (go_simp; done) | (go_simp; rfl)); intro A3 c3 w3 hc3 hC3 hb3; have HC3 := Lib.hid hC3; have HL3 := Lib.hid hc3; have hb := below_step HB.out hb3; have hC2 := Kd.C_below HC2.out hb3; clear HB HC2; have HC2 := Lib.hid hC2; have HB := Lib.hid hb; clear hb hb3 hc3 hC3 hC2)
    | ((with_reducible refine gate_callee (f := 11) rfl ?_); refine goesL_ _ rfl rfl Try.func11 (by kernel_rfl) rfl #[.slice A3 ([7, 1, 2] : List Int).length c3, .int .i64 1, .int .i64 2] rfl (by (try simp only [List.map_toArray, List.map_cons, List.map_nil]); first | done | rfl) ?_; refine (wire_Get.calls 10 A3 c3 [7, 1, 2] 1 2 _ _ _ HC3.out HL3.out hG).mono ?_; rintro e w4 ⟨rfl, hb4⟩; refine ⟨_, rfl, ?_⟩; have hC2 := Kd.C_below HC2.out hb4.below; have hb := below_step HB.out hb4.below; clear HB HC2 HC3 HL3; have HC2 := Lib.hid hC2; have HB := Lib.hid hb; clear hb hb4 hC2)
    | ((with_reducible refine gate_dst (N := 21) rfl ?_); refine lit_bytes ?hg (N := 21) ?hd [255, 254, 5] (by simp) ?hr ?_; (case hd => rfl); (case hg => rfl); (case hr => first | (go_simp; done) | (go_simp; rfl)); intro A5 c5 w5 hc5 hC5 hb5; have HC5 := Lib.hid hC5; have HL5 := Lib.hid hc5; have hb := below_step HB.out hb5; have hC2 := Kd.C_below HC2.out hb5; clear HB HC2; have HC2 := Lib.hid hC2; have HB := Lib.hid hb; clear hb hb5 hc5 hC5 hC2)
    | ((with_reducible refine gate_callee (f := 15) rfl ?_); refine goesL_ _ rfl rfl Try.func15 (by kernel_rfl) rfl #[.slice A5 ([255, 254, 5] : List Int).length c5] rfl (by (try simp only [List.map_toArray, List.map_cons, List.map_nil]); first | done | rfl) ?_; refine (RdA.new (w0 := w5) (Below.refl _ _) HC5.out HL5.out (by simp) (by simp [bytesOk])).mono ?_; rintro e w6 ⟨g, b, rfl, hd, _, _, _⟩; refine ⟨_, rfl, ?_⟩; have HD := Lib.hid hd; clear hd HC5 HL5)
    | ((with_reducible refine gate_callee (f := 16) rfl ?_); refine goesL_ _ rfl rfl Try.func16 (by kernel_rfl) rfl #[.pointer (some ⟨g, 0, none⟩), .int .i64 2] rfl (by (try simp only [List.map_toArray, List.map_cons, List.map_nil]); first | done | rfl) ?_; refine (RdA.int HD.out 2).mono ?_; rintro e w7 ⟨rfl, hd, _⟩; refine ⟨_, rfl, ?_⟩; clear HD; rw [hI] at hd ⊢; dsimp only at hd ⊢; have HD := Lib.hid hd; clear hd)
    | ((with_reducible refine gate_callee (f := 18) rfl ?_); refine goesL_ _ rfl rfl Try.func18 (by kernel_rfl) rfl #[.pointer (some ⟨g, 0, none⟩)] rfl (by (try simp only [List.map_toArray, List.map_cons, List.map_nil]); first | done | rfl) ?_; refine (RdA.left HD.out).mono ?_; rintro e w8 ⟨rfl, rfl⟩; refine ⟨_, rfl, ?_⟩)
    | ((with_reducible refine gate_callee (f := 17) rfl ?_); refine goesL_ _ rfl rfl Try.func17 (by kernel_rfl) rfl #[.pointer (some ⟨g, 0, none⟩), .int .i64 2] rfl (by (try simp only [List.map_toArray, List.map_cons, List.map_nil]); first | done | rfl) ?_; refine (RdA.uint HD.out 2).mono ?_; rintro e w9 ⟨rfl, hd, _⟩; refine ⟨_, rfl, ?_⟩; clear HD; rw [hU] at hd ⊢; dsimp only at hd ⊢; have HD := Lib.hid hd; clear hd)
    | ((with_reducible refine gate_callee (f := 14) rfl ?_); refine goesL_ _ rfl rfl Try.func14 (by kernel_rfl) rfl #[.slice none ([] : List Int).length 0, .int .u64 16777216, .int .i64 3] rfl (by (try simp only [List.map_toArray, List.map_cons, List.map_nil]); first | done | rfl) ?_; refine (wire_Append.calls none 0 [] 16777216 3 _ _ _ (Kd.C_nil _ _) (by simp) hA2).mono ?_; rintro e wa ⟨va, rfl, hra, hba⟩; refine ⟨_, rfl, ?_⟩; have hd := HD.out.below' hba; clear HD; have HD := Lib.hid hd; clear hd hba hra)
    | ((with_reducible refine gate_dst (N := 39) rfl ?_); (try (refine gate_guard (by rfl) ?_; dsimp only)); refine lit_bytes ?hg (N := 39) ?hd [7, 1, 2] (by simp) ?hr ?_; (case hd => rfl); (case hg => rfl); (case hr => first | (go_simp; done) | (go_simp; rfl)); intro A6 c6 w10 hc6 hC6 hb6; have HC6 := Lib.hid hC6; have HL6 := Lib.hid hc6; have hd := HD.out.below' hb6; clear HD; have HD := Lib.hid hd; clear hd hb6 hc6 hC6)
    | ((with_reducible refine gate_callee (f := 22) rfl ?_); (try (refine gate_guard (by rfl) ?_; dsimp only)); refine goesL_ _ rfl rfl Try.func22 (by kernel_rfl) rfl #[.slice A2 ([7, 1, 2] : List Int).length c2, .slice A6 ([7, 1, 2] : List Int).length c6] rfl (by (try simp only [List.map_toArray, List.map_cons, List.map_nil]); first | done | rfl) ?_; refine (slices_Equal_byte_byte.calls 10 A2 c2 [7, 1, 2] A6 c6 [7, 1, 2] _ _ (Kd.C_below HC2.out HD.out.low) HL2.out HC6.out HL6.out hE).mono ?_; rintro e w11 ⟨rfl, hb⟩; refine ⟨_, rfl, ?_⟩; have hd := HD.out.below' hb.below; clear HD HC6 HL6 HL2; have HD := Lib.hid hd; clear hd hb)
    | ((with_reducible refine gate_callee (f := 19) rfl ?_); (try (refine gate_guard (by rfl) ?_; dsimp only)); refine goesL_ _ rfl rfl Try.func19 (by kernel_rfl) rfl #[.pointer (some ⟨g, 0, none⟩)] rfl (by (try simp only [List.map_toArray, List.map_cons, List.map_nil]); first | done | rfl) ?_; refine (RdA.err HD.out).mono ?_; rintro e w12 ⟨rfl, rfl⟩; refine ⟨_, rfl, ?_⟩)
    )
  go_ret
  exact ⟨rfl, below_step HB.out HD.out.low⟩
theorem timesynclaw02_awake.calls (r : Bool) (w : World) (h : timesynclaw02_awake.f = some r) :
    Calls Try.prog 13 #[] w fun e w' => e = .returned (.bool r) ∧ Below w.heap.size w w' := by
  unfold timesynclaw02_awake.f at h
  obtain rfl := Option.some.inj h
  exact awake_true w
end Go.Proofs.Yteiogfmfcmfpjaa.P
