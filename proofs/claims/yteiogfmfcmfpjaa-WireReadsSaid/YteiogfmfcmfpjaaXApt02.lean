/- The law WireApart. -/
import Derived.Test.YteiogfmfcmfpjaaXStp02
import Derived.Test.YteiogfmfcmfpjaaXCln02
import Derived.Deep.RegionWith
namespace Go.Proofs.Yteiogfmfcmfpjaa.P
set_option linter.unusedVariables false
set_option linter.unusedSimpArgs false
open Go.RowKit Go.Proofs.YteiogfmfcmfpjaaW.PrintWords Go.Proofs.YteiogfmfcmfpjaaW.PrintLast Go.Proofs.YteiogfmfcmfpjaaW.PrintMore Go.Proofs.Yteiogfmfcmfpjaa.Rd

theorem eqs_l0 (l : List Int) (hl : l.length ≤ 140737488355328) : ∀ (d i k : Nat), l.length = i + d → d < k → slices_Equal_byte_byte.l0 k l l l.length i = some true := by
  intro d
  induction d with
  | zero =>
    intro i k hi hk
    obtain ⟨k, rfl⟩ : ∃ k', k = k' + 1 := ⟨k - 1, by omega⟩
    rw [slices_Equal_byte_byte.l0, if_neg (by omega)]
  | succ d ih =>
    intro i k hi hk
    obtain ⟨k, rfl⟩ : ∃ k', k = k' + 1 := ⟨k - 1, by omega⟩
    have e2 : wrap64 ((i : Int) + 1) = ((i + 1 : Nat) : Int) := by unfold wrap64; omega
    rw [slices_Equal_byte_byte.l0, if_pos (by omega), if_pos (by omega), if_pos (by omega), if_pos (by omega), if_pos rfl, e2]
    exact ih (i + 1) k (by omega) (by omega)
theorem eqs_self (l : List Int) (hl : l.length ≤ 140737488355328) (k : Nat) (hk : l.length < k) : slices_Equal_byte_byte.f k l l = some true := by
  unfold slices_Equal_byte_byte.f
  rw [if_pos rfl]
  exact eqs_l0 l hl l.length 0 k (by omega) hk
theorem eq_call (X : List Int) (s : Nat) (hX : X.length = s) (hs : s ≤ 5000) (A A' : Option Addr) (c c' : Nat) (w : World) (h1 : Kd.C (Kd.int .u8) w A s X) (hc : s ≤ c) (h2 : Kd.C (Kd.int .u8) w A' s X) (hc' : s ≤ c') :
    Calls Try.prog 22 #[.slice A s c, .slice A' s c'] w fun e w' => e = .returned (.bool true) ∧ Below w.heap.size w w' := by
  subst hX
  exact (slices_Equal_byte_byte.calls 6000 A c X A' c' X true w h1 hc h2 hc' (eqs_self X (by omega) 6000 (by omega))).mono fun e w' ⟨e1, hd⟩ => ⟨e1, hd.below⟩
theorem RdA.grown {w0 w w1 : World} {g b : Nat} {all rest : List Int} {er : Int} {row : Option Nat} (h : RdA w0 w g b all rest er) (hg : w.grownBy w1 row) (h1 : some g ≠ row) (h2 : some b ≠ row) (hb : Below w0.heap.size w0 w1) : RdA w0 w1 g b all rest er := by
  obtain ⟨p, ha⟩ := h.at'
  exact ⟨⟨p, ⟨blk_grown ha.blk hg h1, blk_grown ha.byt hg h2, ha.ne, ha.le, ha.suf, ha.ptr, ha.big⟩⟩, h.g0, h.b0, hb, h.ok⟩
set_option maxHeartbeats 4000000 in
theorem apart_walk (A0 : Option Addr) (c0 : Nat) (l0 : List Int) (a1 : Int) (w : World) (hr0 : Hid (Kd.C (Kd.int .u8) w A0 l0.length l0)) (hc0 : Hid (l0.length ≤ c0))
    (hok : Hid (bytesOk l0)) (hlen : decide (5000 < (l0.length : Int)) = false) (hlen2 : Hid (l0.length ≤ 5000)) (X Y : List Int) (s t u : Nat) (hU : (X ++ [77]).length = u)
    (e1 : wrap64 ((l0.length : Int) + 1) = (l0.length : Int) + 1) (e2 : IntKind.u64.wrap ((l0.length : Int) + 1) = (l0.length : Int) + 1) (e3 : (((l0.length : Int) + 1) == 0) = false) (e3' : ¬ ((l0.length : Int) + 1 = 0))
    (e4 : wrap64 ((IntKind.u64.wrap a1).tmod ((l0.length : Int) + 1)) = (s : Int)) (hs : s ≤ l0.length) (hX : X = l0.take s) (hY : Y = l0.drop s) (hXl : X.length = s) (hYl : Y.length = t) (e5 : wrap64 ((l0.length : Int) - s) = (t : Int))
    (hb1 : Hid (bytesS l0 0 s = (X, Y, 0))) (hb2 : Hid (bytesS Y 0 t = (Y, [], 0))) :
    Calls Try.prog 10 #[.slice A0 l0.length c0, .int .i64 a1] w fun e w' => e = .returned (.bool true) ∧ Below w.heap.size w w' := by
  obtain ⟨i0, hi0, _, hsz, _⟩ := info_parts app_info
  have hcutT := cut_to (P := Try.prog) 22 5 .i64 Try.underlying22 hi0 A0 l0.length c0 (s : Int) (by omega) (by omega) hc0.out
  obtain ⟨AD, hcutD, hrD, hcD⟩ := print_drop_of (P := Try.prog) (Value.int .u8) 0 22 5 .i64 Try.underlying22 hi0 hsz A0 c0 l0 (s : Int) (by omega) (by omega) hc0.out
  rw [Int.toNat_natCast] at hcutT hcutD hrD hcD
  rw [← hY, hYl] at hcutD hcD
  have HXC : Hid (Kd.C (Kd.int .u8) w A0 s X) := by
    have := Kd.C_take (m := s) hr0.out hs
    rw [← hX, hXl] at this
    exact this
  have HYC : Hid (Kd.C (Kd.int .u8) w AD t Y) := by
    have := Kd.C_of_reads (h1 := fun _ => rfl) (hrD w (Kd.reads_of_C hr0.out))
    rw [← hY, hYl] at this
    exact this
  have HCD := Lib.hid hcD
  have hyl : Y.length = l0.length - s := by rw [hY]; exact List.length_drop
  have HS5 : Hid (s ≤ 5000 ∧ t ≤ 5000 ∧ s ≤ c0 ∧ u ≤ 5001) := by
    have h1 := hlen2.out
    have h2 := hc0.out
    have h3 : X.length + 1 = u := by rw [← hU]; simp
    exact ⟨by omega, by omega, by omega, by omega⟩
  clear hyl
  have p1 := eq_true (show 0 ≤ (s : Int) by omega)
  have p2 := eq_true (show (s : Int) ≤ (l0.length : Int) by omega)
  have hcl : slices_Clone_byte_byte.f l0 = some l0 := if_pos (by have := hlen2.out; omega)
  have HCL := Lib.hid hcl
  have HX := Lib.hid hX
  clear hcl hrD hcD hX hY hs hi0 hsz
  go_enter Try.func10, Try.ntmps10
  go_wp2_with (first
    | (go_at_call 20; refine (slices_Clone_byte_byte.calls A0 c0 l0 l0 _ hr0.out hc0.out HCL.out).mono ?_; rintro e w1 ⟨v1, rfl, ho1, hb⟩; obtain ⟨A1, cp1, rfl, hcp1, hC1⟩ := Kd.R_reads ho1; have HO := Lib.hid ho1; have HB := Lib.hid hb; have HC1 := Lib.hid hC1; have HCP1 := Lib.hid hcp1; clear ho1 hb hC1 hcp1)
    | (go_at_call 15; refine (RdA.new (w0 := w) HB.out HC1.out HCP1.out (by have := hlen2.out; omega) hok.out).mono ?_; rintro e w3 ⟨g, b, rfl, hd, hlo, hg3, hb3⟩; have ho3 := Kd.R_mono (ok' := fun k => k ≠ g ∧ k ≠ b) (Kd.R_below (Kd.R_bound HO.out) hlo) (fun k hk => (by have := hk.2.2.1; exact ⟨by omega, by omega⟩)); clear HO HB HC1; have HO := Lib.hid ho3; have HD := Lib.hid hd; clear hd hlo hg3 hb3 ho3)
    )
  go_loopw [31] (fun v31 wr => ∃ (j : Int) (L : List Int), v31 = .int .i64 j ∧ Hid (0 ≤ j ∧ j ≤ (l0.length : Int)) ∧ Hid (L.length = l0.length) ∧ Hid (Kd.R (Kd.int .u8) 5 wr w.heap.size (fun k => k ≠ g ∧ k ≠ b) (.slice A1 l0.length cp1) L) ∧ Hid (RdA w wr g b l0 l0 0)) (fun v31 _ => l0.length - (intOf v31).toNat)
  case atStart => exact ⟨0, _, rfl, ⟨Int.le_refl _, by omega⟩, rfl, HO, HD⟩
  case round =>
    clear HO HD
    obtain ⟨j, L, rfl, HI, HL, HO, HD⟩ := hrel
    by_cases hi : j < (l0.length : Int)
    · have c1 : decide (j < (l0.length : Int)) = true := decide_eq_true hi
      have hij := HI.out
      have e9 : wrap64 (j + 1) = j + 1 := by have := hlen2.out; have := HS5.out; unfold wrap64; omega
      have HI2 : Hid (0 ≤ j + 1 ∧ j + 1 ≤ (l0.length : Int)) := ⟨by omega, by omega⟩
      have HM : Hid (l0.length - (j + 1).toNat < l0.length - j.toNat) := (by omega : l0.length - (j + 1).toNat < l0.length - j.toNat)
      have ho := HO.out
      have hL := HL.out
      obtain ⟨g1, cg, hv, hg1, hg2, _⟩ := Kd.R_form ho (by omega)
      rw [hL] at hv
      injection hv with hA hn_ hcg
      subst hA hcg
      have hne := ho.1 g1 (by simp [Value.ownBlock])
      have HNE : Hid (w.heap.size ≤ g1 ∧ g ≠ g1 ∧ b ≠ g1) := ⟨hg1, fun h => hne.1 h.symm, fun h => hne.2 h.symm⟩
      obtain ⟨hx, hf⟩ := Kd.R_celln 0 ho j hij.1 hi
      have p3 := eq_true hij.1
      have p4 := eq_true hi
      clear hi hij HI ho hg1 hg2 hne hn_
      go_wp2
      exact ⟨⟨j + 1, _, by rw [e9], HI2, (by rw [List.length_set]; exact hL : (L.set j.toNat _).length = l0.length), Kd.R_putn HO.out j _, HD.out.upd (Upd.set _ g1 j.toNat _) HNE.out.1 HNE.out.2.1 HNE.out.2.2⟩, by rw [e9]; exact HM.out⟩
    · have c1 : decide (j < (l0.length : Int)) = false := decide_eq_false hi
      clear HI hi
      go_wp2_with (first
        | (go_at_call 28; refine (RdA.bytes HD.out _).mono ?_; rintro e w5 ⟨A5, c5, rfl, hc5, hC5, hd, hu, ho5⟩; rw [hb1.out] at hd ho5 hc5 hC5 ⊢; dsimp only at hd ho5 hc5 hC5 ⊢; have hgl := HD.out.g_lt; have hbl := HD.out.b_lt; have hszl := HD.out.low.size; have hox := Kd.R_lower (d := Kd.int .u8) (Kd.R_of_own (ok := (fun k => k ≠ g ∧ k ≠ b)) ho5 (fun k hk => (by have := own_base ho5 k hk; exact ⟨by omega, by omega⟩))) hszl; rw [hXl] at hc5 hC5 hox; clear HD HO; have HO := Lib.hid hox; have HD := Lib.hid hd; have HC5 := Lib.hid hC5; have HL5 := Lib.hid hc5; clear hd hu ho5 hox hc5 hC5 hgl hbl hszl)
        | (go_at_call 22; refine (eq_call X s hXl HS5.out.1 _ _ _ _ _ HC5.out HL5.out (Kd.C_below HXC.out HD.out.low) HS5.out.2.2.1).mono ?_; rintro e w6 ⟨rfl, hb⟩; have hd := HD.out.below' hb; have ho := Kd.R_below HO.out hb; clear HD HO HC5; have HD := Lib.hid hd; have HO := Lib.hid ho; clear hd ho hb)
        | ((with_reducible refine gate_builtin (b := .append) (xs := #[.tmp 50, .tmp 51]) rfl ?_); at_builtin; go_loud (refine Kd.R_append (Kd.int .u8) (w0 := w) w.heap.size rfl (.tmp 50) (.tmp 51) 22 5 (.int .u8 0) 1 rfl Try.underlying22 app_info rfl (by decide) (by omega) _ X 77 [.int .u8 77] (fun k => k ≠ g ∧ k ≠ b) (fun _ => False) rfl rfl rfl (fun _ hk => hk.elim) ?aF ?aO HD.out.low HD.out.low.size ?aL ?_; (case aF => intro k hk; have h1 := HD.out.g_lt; have h2 := HD.out.b_lt; exact ⟨by omega, by omega⟩); (case aO => exact HO.out); (case aL => have := HS5.out; omega); intro v7 w7 ho7 hb7 hg7 _; have hd := P.RdA.grown HD.out hg7 (Kd.R_away HO.out (fun k hk => hk.1)) (Kd.R_away HO.out (fun k hk => hk.2)) hb7; obtain ⟨A7, c7, rfl, hc7, hC7⟩ := Kd.R_reads ho7; rw [hU] at ho7; clear HD HO HL5; have HO := Lib.hid ho7; have HD := Lib.hid hd; clear hd ho7 hb7 hg7 hc7 hC7)))
      go_loopw [55] (fun v55 wr => ∃ (j : Int) (L : List Int), v55 = .int .i64 j ∧ Hid (0 ≤ j ∧ j ≤ (u : Int)) ∧ Hid (L.length = u) ∧ Hid (Kd.R (Kd.int .u8) 5 wr w.heap.size (fun k => k ≠ g ∧ k ≠ b) (.slice A7 u c7) L) ∧ Hid (RdA w wr g b l0 Y 0)) (fun v55 _ => u - (intOf v55).toNat)
      case atStart => exact ⟨0, _, rfl, ⟨Int.le_refl _, by omega⟩, hU, HO, HD⟩
      case round =>
        clear HO HD c1 HL
        obtain ⟨j, L, rfl, HI, HL, HO, HD⟩ := hrel
        by_cases hi : j < (u : Int)
        · have c1 : decide (j < (u : Int)) = true := decide_eq_true hi
          have hij := HI.out
          have e9 : wrap64 (j + 1) = j + 1 := by have := hlen2.out; have := HS5.out; unfold wrap64; omega
          have HI2 : Hid (0 ≤ j + 1 ∧ j + 1 ≤ (u : Int)) := ⟨by omega, by omega⟩
          have HM : Hid (u - (j + 1).toNat < u - j.toNat) := (by omega : u - (j + 1).toNat < u - j.toNat)
          have ho := HO.out
          have hL := HL.out
          obtain ⟨g1, cg, hv, hg1, hg2, _⟩ := Kd.R_form ho (by omega)
          rw [hL] at hv
          injection hv with hA hn_ hcg
          subst hA hcg
          have hne := ho.1 g1 (by simp [Value.ownBlock])
          have HNE : Hid (w.heap.size ≤ g1 ∧ g ≠ g1 ∧ b ≠ g1) := ⟨hg1, fun h => hne.1 h.symm, fun h => hne.2 h.symm⟩
          obtain ⟨hx, hf⟩ := Kd.R_celln 0 ho j hij.1 hi
          have p3 := eq_true hij.1
          have p4 := eq_true hi
          clear hi hij HI ho hg1 hg2 hne hn_
          go_wp2
          exact ⟨⟨j + 1, _, by rw [e9], HI2, (by rw [List.length_set]; exact hL : (L.set j.toNat _).length = u), Kd.R_putn HO.out j _, HD.out.upd (Upd.set _ g1 j.toNat _) HNE.out.1 HNE.out.2.1 HNE.out.2.2⟩, by rw [e9]; exact HM.out⟩
        · have c1 : decide (j < (u : Int)) = false := decide_eq_false hi
          clear HI hi
          go_wp2
          have e5' : IntKind.i64.wrap ((l0.length : Int) - s) = (t : Int) := by rw [i64_w]; exact e5
          have hd := HD.out.below' (below_drew1 (Below.refl _ _))
          clear HD HO
          have HD := Lib.hid hd
          clear hd
          go_region_with (first
            | (go_at_call 28; refine (RdA.bytes HD.out _).mono ?_; rintro e w9 ⟨A9, c9, rfl, hc9, hC9, hd, hu, ho9⟩; rw [hb2.out] at hd ho9 hc9 hC9 ⊢; dsimp only at hd ho9 hc9 hC9 ⊢; rw [hYl] at hc9 hC9; clear HD; have HD := Lib.hid hd; have HC9 := Lib.hid hC9; have HL9 := Lib.hid hc9; clear hd hu ho9 hc9 hC9)
            | (go_at_call 22; refine (eq_call Y t hYl HS5.out.2.1 _ _ _ _ _ HC9.out HL9.out (Kd.C_below HYC.out HD.out.low) HCD.out).mono ?_; rintro e wa ⟨rfl, hb⟩; have hd := HD.out.below' hb; clear HD HC9 HL9; have HD := Lib.hid hd; clear hd hb)
            | (go_at_call 18; refine (RdA.left HD.out).mono ?_; rintro e wq ⟨rfl, rfl⟩)
            | (go_at_call 19; refine (RdA.err HD.out).mono ?_; rintro e wq ⟨rfl, rfl⟩)
            | (go_at_call 13; refine (awake_true _).mono ?_; rintro e wz ⟨rfl, hb⟩; have hb2 := below_step HD.out.low hb; have HB := Lib.hid hb2; clear hb hb2))
          all_goals
            go_wp2
            go_ret
            refine ⟨?_, HB.out⟩
            first | rfl | go_simp
theorem apart_long (A0 : Option Addr) (c0 : Nat) (l0 : List Int) (a1 : Int) (w : World) (hlen : decide (5000 < (l0.length : Int)) = true) :
    Calls Try.prog 10 #[.slice A0 l0.length c0, .int .i64 a1] w fun e w' => e = .returned (.bool true) ∧ Below w.heap.size w w' := by
  go_enter Try.func10, Try.ntmps10
  go_wp2_with (first
    | (go_at_call 13; refine (awake_true _).mono ?_; rintro e w9 ⟨rfl, hb9⟩; have HB := Lib.hid hb9; clear hb9))
  go_ret
  exact ⟨rfl, HB.out⟩
/-- What the law answers at bytes. -/
def timesynclaw02_WireApart.f (l0 : List Int) (a1 : Int) : Option Bool := if ∀ x ∈ l0, 0 ≤ x ∧ x ≤ 255 then some true else none
theorem timesynclaw02_WireApart.calls (A0 : Option Addr) (c0 : Nat) (l0 : List Int) (a1 : Int) (r : Bool) (w : World) (hr0 : Kd.C (Kd.int .u8) w A0 l0.length l0) (hc0 : l0.length ≤ c0) (h : timesynclaw02_WireApart.f l0 a1 = some r) :
    Calls Try.prog 10 #[.slice A0 l0.length c0, .int .i64 a1] w fun e w' => e = .returned (.bool r) ∧ Below w.heap.size w w' := by
  unfold timesynclaw02_WireApart.f at h
  split at h
  · rename_i hb
    obtain rfl := Option.some.inj h
    by_cases hl : (l0.length : Int) > 5000
    · exact apart_long A0 c0 l0 a1 w (decide_eq_true hl)
    · have ht : ∃ s : Nat, (IntKind.u64.wrap a1).tmod ((l0.length : Int) + 1) = (s : Int) ∧ s ≤ l0.length := by
        have h0 : 0 ≤ IntKind.u64.wrap a1 := by rw [IntKind.wrap_u64]; omega
        rw [Int.tmod_eq_emod_of_nonneg h0]
        have h1 := Int.emod_nonneg (IntKind.u64.wrap a1) (show (l0.length : Int) + 1 ≠ 0 by omega)
        have h2 := Int.emod_lt_of_pos (IntKind.u64.wrap a1) (show 0 < (l0.length : Int) + 1 by omega)
        obtain ⟨s, hs⟩ := Int.eq_ofNat_of_zero_le h1
        exact ⟨s, hs, by omega⟩
      obtain ⟨s, hs, hsl⟩ := ht
      have hXl : (l0.take s).length = s := by rw [List.length_take]; omega
      have hYl : (l0.drop s).length = l0.length - s := List.length_drop
      have hb1 : bytesS l0 0 s = (l0.take s, l0.drop s, 0) := by
        unfold bytesS takeS
        rw [if_neg (by simp), if_neg (by simp), if_neg (by omega), Int.toNat_natCast]
      have hb2 : bytesS (l0.drop s) 0 ((l0.length - s : Nat) : Int) = (l0.drop s, [], 0) := by
        have t1 : (l0.drop s).take (l0.length - s) = l0.drop s := List.take_of_length_le (by omega)
        have t2 : (l0.drop s).drop (l0.length - s) = [] := List.drop_of_length_le (by omega)
        unfold bytesS takeS
        rw [if_neg (by simp), if_neg (by simp), if_neg (by omega), Int.toNat_natCast, t1, t2]
      exact apart_walk A0 c0 l0 a1 w hr0 hc0 hb (decide_eq_false hl) (show l0.length ≤ 5000 by omega) (l0.take s) (l0.drop s) s (l0.length - s) _ rfl
        (small_wrap _ (by omega) (by omega)) (small_wrap_u _ (by omega) (by omega)) (by simp; omega) (by omega) (by rw [hs]; exact small_wrap _ (by omega) (by omega)) hsl rfl rfl hXl hYl (by rw [small_wrap _ (by omega) (by omega)]; omega) hb1 hb2
  · cases h
end Go.Proofs.Yteiogfmfcmfpjaa.P
