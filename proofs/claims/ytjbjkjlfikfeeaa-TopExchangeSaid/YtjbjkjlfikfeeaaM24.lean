/- Texts of this claim, laid together: each says itself what it proves. -/
import Derived.Test.YtjbjkjlfikfeeaaM21
import Derived.Test.YtjbjkjlfikfeeaaM12
import Derived.Test.YtjbjkjlfikfeeaaM23
import Derived.Test.YtjbjkjlfikfeeaaM1
/- What Reply answers. -/
namespace Go.Proofs.Ytjbjkjlfikfeeaa.P
open Go.RowKit Go.Proofs.YtjbjkjlfikfeeaaW.PrintWords Go.Proofs.YtjbjkjlfikfeeaaW.PrintLast Go.Proofs.YtjbjkjlfikfeeaaW.PrintMore Go.Proofs.Ytjbjkjlfikfeeaa.Rd

/-- A short timestamp, rounded up. -/
def shortV (d : Int) : Int := (d * 65536 + 999999999) / 1000000000
def shortR (d : Int) : Int × Int := if shortV d > 4294967295 then (0, 3) else (shortV d % 4294967296, 0)
theorem short_ok (d : Int) (h0 : 0 ≤ d) (h1 : d ≤ 9007199254740992) : stamp_Short.f d = some (shortR d) := by
  have e1 : wrap64 (-d) = -d := by unfold wrap64; omega
  have em : B.mulDiv (-d) 65536 1000000000 = (-(shortV d), true) := by
    unfold B.mulDiv B.floorQ shortV
    rw [if_neg (by omega), if_pos (by omega), B.fitI_yes (by omega) (by omega)]
    congr 1
    omega
  unfold stamp_Short.f fixed_MulDiv.f
  rw [if_neg (by omega), e1, if_pos ⟨by unfold B.isI64; omega, by unfold B.isI64; omega, by unfold B.isI64; omega⟩, em]
  simp only [Option.bind_some, if_true, Int.neg_neg]
  have hv : 0 ≤ shortV d ∧ shortV d ≤ 9223372036854775807 := by unfold shortV; omega
  have e2 : wrap64 (shortV d) = shortV d := by unfold wrap64; omega
  rw [e2]
  unfold shortR
  split <;> rfl
def rootOk (s d p : Int) : Prop := 1 ≤ s ∧ s ≤ 16 ∧ 0 ≤ d ∧ d ≤ 9007199254740992 ∧ 0 ≤ p ∧ p ≤ 9007199254740992
instance (s d p : Int) : Decidable (rootOk s d p) := by unfold rootOk; infer_instance
theorem root_check (s d p i : Int) : root_Check.f s d p i = some (if rootOk s d p then 0 else 3) := by
  by_cases hv : rootOk s d p
  all_goals
    first | rw [if_pos hv] | rw [if_neg hv]
    unfold rootOk at hv
    unfold root_Check.f root_isSpan.f
    by_cases h1 : s < 1
    · rw [if_pos h1]; try (first | rfl | (exfalso; omega))
    rw [if_neg h1]
    by_cases h2 : s > 16
    · rw [if_pos h2]; try (first | rfl | (exfalso; omega))
    rw [if_neg h2]
    by_cases h3 : d ≥ 0 <;> by_cases h4 : d ≤ 9007199254740992 <;> by_cases h5 : p ≥ 0 <;> by_cases h6 : p ≤ 9007199254740992 <;> simp [h3, h4, h5, h6] <;> omega
/-- The fields of a root. -/
def fieldsV (s d p : Int) : Int × Int × Int :=
  if rootOk s d p then if (shortR d).2 = 0 ∧ (shortR p).2 = 0 then ((shortR d).1, (shortR p).1, 0) else (0, 0, 3) else (0, 0, 3)
theorem short_two (d : Int) : (shortR d).2 = 0 ∨ (shortR d).2 = 3 := by unfold shortR; split <;> simp
theorem fields_ok (s d p i : Int) : root_Fields.f s d p i = some (fieldsV s d p) := by
  unfold root_Fields.f fieldsV
  rw [root_check, Option.bind_some]
  by_cases hv : rootOk s d p
  · rw [if_pos hv, if_pos rfl, if_pos hv]
    unfold rootOk at hv
    rw [short_ok d (by omega) (by omega), short_ok p (by omega) (by omega)]
    simp only [Option.bind_some]
    by_cases h1 : (shortR d).2 = 0 <;> by_cases h2 : (shortR p).2 = 0 <;> simp [h1, h2]
  · rw [if_neg hv, if_neg (by omega), if_neg hv]
theorem reqcheck_ok (L V M S P C d1 d2 d3 d4 d5 d6 d7 : Int) : server_request_check.f L V M S P C d1 d2 d3 d4 d5 d6 d7 = some (if valid19 L V M S P C then if M = 3 then 0 else 8 else 2) := by
  unfold server_request_check.f
  rw [check_spec, Option.bind_some]
  by_cases hv : valid19 L V M S P C
  · rw [if_pos hv, if_pos rfl, if_pos hv]
    split <;> rfl
  · rw [if_neg hv, if_neg (by omega), if_neg hv]
/-- What both replies answer. -/
def replyV (V M P d7 rec xmt ref s d p i leap prec : Int) (valid : Bool) : Int × Int × Int × Int × Int × Int × Int × Int × Int × Int × Int × Int × Int × Int :=
  if valid = false ∨ ¬ rootOk s d p ∨ leap < 0 ∨ leap > 3 ∨ prec < -128 ∨ prec > 127 then (0, 0, 0, 0, 0, 0, 0, 0, 0, 0, 0, 0, 0, 2)
  else if M = 3 then
    if (fieldsV s d p).2.2 = 0 then
      if s = 16 then (3, V, 4, 0, P, prec, (fieldsV s d p).1, (fieldsV s d p).2.1, i, ref, d7, rec, xmt, 0)
      else (leap, V, 4, s, P, prec, (fieldsV s d p).1, (fieldsV s d p).2.1, i, ref, d7, rec, xmt, 0)
    else (0, 0, 0, 0, 0, 0, 0, 0, 0, 0, 0, 0, 0, (fieldsV s d p).2.2)
  else (0, 0, 0, 0, 0, 0, 0, 0, 0, 0, 0, 0, 0, 8)
theorem rep_j0 (k : Nat) (x1 x2 x3 x5 x6 x17 : Int) (b : Bool) (L V M S P C d1 d2 d3 d4 d5 d6 d7 s d p i : Int) (hx : x17 = 0 ∨ x17 = 8) (hm : x17 = 0 ↔ M = 3) (hb : b = true ↔ ¬ rootOk s d p ∨ x5 < 0 ∨ x5 > 3 ∨ x6 < -128 ∨ x6 > 127) :
    server_Reply.j0 (k + 1) x1 x2 x3 x5 x6 x17 b L V M S P C d1 d2 d3 d4 d5 d6 d7 s d p i = some (replyV V M P d7 x1 x2 x3 s d p i x5 x6 true) := by
  rw [server_Reply.j0]
  unfold replyV
  by_cases h : b = true
  · rw [if_pos h, if_pos (.inr (hb.1 h))]
  · have h' : ¬ (¬ rootOk s d p ∨ x5 < 0 ∨ x5 > 3 ∨ x6 < -128 ∨ x6 > 127) := fun hh => h (hb.2 hh)
    rw [if_neg h, if_neg (fun hh => hh.elim (fun e => Bool.noConfusion e) h' : ¬ (true = false ∨ ¬ rootOk s d p ∨ x5 < 0 ∨ x5 > 3 ∨ x6 < -128 ∨ x6 > 127))]
    have hr : rootOk s d p := by
      by_cases hr : rootOk s d p
      · exact hr
      · exact absurd (.inl hr) h'
    unfold rootOk at hr
    by_cases h3 : M = 3
    · rw [if_pos (hm.2 h3), if_pos h3, fields_ok, Option.bind_some]
      by_cases hf : (fieldsV s d p).2.2 = 0
      · rw [if_pos hf, if_pos hf]
        by_cases hs : s = 16
        · rw [if_pos hs, if_pos hs]
        · rw [if_neg hs, if_neg hs, if_neg (by omega)]
      · rw [if_neg hf, if_neg hf]
    · rw [if_neg (fun hh => h3 (hm.1 hh)), if_neg h3]
      have : x17 = 8 := by
        rcases hx with hx | hx
        · exact absurd (hm.1 hx) h3
        · exact hx
      rw [this]
theorem reply_ok (k : Nat) (L V M S P C d1 d2 d3 d4 d5 d6 d7 x1 x2 x3 s d p i x5 x6 : Int) :
    server_Reply.f (k + 1) L V M S P C d1 d2 d3 d4 d5 d6 d7 x1 x2 x3 s d p i x5 x6 = some (replyV V M P d7 x1 x2 x3 s d p i x5 x6 (decide (valid19 L V M S P C))) := by
  unfold server_Reply.f
  rw [reqcheck_ok, Option.bind_some]
  by_cases hv : valid19 L V M S P C
  · rw [if_pos hv, decide_eq_true hv, root_check, Option.bind_some]
    have hx : (if M = 3 then (0 : Int) else 8) = 0 ∨ (if M = 3 then (0 : Int) else 8) = 8 := by split <;> simp
    have hm : (if M = 3 then (0 : Int) else 8) = 0 ↔ M = 3 := by split <;> simp_all
    have h2 : ¬ (if M = 3 then (0 : Int) else 8) = 2 := by split <;> omega
    rw [if_neg h2]
    by_cases hr : rootOk s d p
    · rw [if_pos hr, if_pos rfl]
      by_cases a1 : x5 < 0
      · rw [if_pos a1, rep_j0 k _ _ _ _ _ _ _ _ _ _ _ _ _ _ _ _ _ _ _ _ _ _ _ _ hx hm (by simp [a1])]
      rw [if_neg a1]
      by_cases a2 : x5 > 3
      · rw [if_pos a2, rep_j0 k _ _ _ _ _ _ _ _ _ _ _ _ _ _ _ _ _ _ _ _ _ _ _ _ hx hm (by simp [a2])]
      rw [if_neg a2]
      by_cases a3 : x6 < -128
      · rw [if_pos a3, rep_j0 k _ _ _ _ _ _ _ _ _ _ _ _ _ _ _ _ _ _ _ _ _ _ _ _ hx hm (by simp [a3])]
      rw [if_neg a3, rep_j0 k _ _ _ _ _ _ _ _ _ _ _ _ _ _ _ _ _ _ _ _ _ _ _ _ hx hm (by simp [hr, a1, a2, a3])]
    · rw [if_neg hr, if_neg (by omega), rep_j0 k _ _ _ _ _ _ _ _ _ _ _ _ _ _ _ _ _ _ _ _ _ _ _ _ hx hm (by simp [hr])]
  · rw [if_neg hv, if_pos rfl, decide_eq_false hv, server_Reply.j0, if_pos rfl]
    unfold replyV
    rw [if_pos (.inl rfl)]
end Go.Proofs.Ytjbjkjlfikfeeaa.P
namespace Go.Proofs.Ytjbjkjlfikfeeaa.P
open Go.RowKit Go.Proofs.YtjbjkjlfikfeeaaW.PrintWords Go.Proofs.YtjbjkjlfikfeeaaW.PrintLast Go.Proofs.YtjbjkjlfikfeeaaW.PrintMore
attribute [local go_sem] max2_int min2_int max_two min_two max_three min_three max_four min_four Go.Proofs.Ytjbjkjlfikfeeaa.Op.isSome_setCell   -- for this text's walks alone
set_option linter.unusedVariables false
set_option linter.unusedSimpArgs false

/-! ### ext_Check: function 62 -/
def ext_Check.j0 : Nat → Bool → Int → List Int → Option (Int)
  | 0, _, _, _ => none
  | k + 1, x10, x122000, x122001 => if x10 = true then (some 3) else (if (x122001.length : Int) < 12 then (some 7) else (if (x122001.length : Int) > 256 then (some 7) else (if ((x122001.length : Int) % 4) = 0 then (some 0) else (some 7))))
def ext_Check.f (k : Nat) (a0_0 : Int) (l0_1 : List Int) : Option (Int) := if a0_0 < 0 then (ext_Check.j0 k true a0_0 l0_1) else (ext_Check.j0 k (decide (a0_0 > 65535)) a0_0 l0_1)
theorem ext_Check.mono_l : ∀ k, (∀ y0 y1 y2, LeO (ext_Check.j0 k y0 y1 y2) (ext_Check.j0 (k + 1) y0 y1 y2))
  | 0 => fun _ _ _ r h => by simp [ext_Check.j0] at h
  | k + 1 => by
    have ih0 := ext_Check.mono_l k
    · intro y0 y1 y2
      unfold ext_Check.j0
      repeat' first
      | (with_reducible exact ih0 _ _ _)
      | (with_reducible exact LeO.refl _)
      | (with_reducible exact LeO.none _)
      | (with_reducible refine LeO.ite ?_ ?_)
      | (with_reducible refine LeO.bind ?_ (fun _ => ?_))
      | exact ih0 _ _ _
      | exact LeO.none _
      | refine LeO.ite ?_ ?_
      | refine LeO.bind ?_ (fun _ => ?_)
theorem ext_Check.mono : ∀ a0 a1 k, LeO (ext_Check.f k a0 a1) (ext_Check.f (k + 1) a0 a1) := by
  intro a0 a1 k
  have ih0 := ext_Check.mono_l k
  unfold ext_Check.f
  repeat' first
      | (with_reducible exact ih0 _ _ _)
      | (with_reducible exact LeO.refl _)
      | (with_reducible exact LeO.none _)
      | (with_reducible refine LeO.ite ?_ ?_)
      | (with_reducible refine LeO.bind ?_ (fun _ => ?_))
      | exact ih0 _ _ _
      | exact LeO.none _
      | refine LeO.ite ?_ ?_
      | refine LeO.bind ?_ (fun _ => ?_)
set_option maxHeartbeats 8000000 in
set_option maxRecDepth 100000 in
theorem ext_Check.calls (k : Nat) (a0_0 : Int) (A0_1 : Option Addr) (c0_1 : Nat) (l0_1 : List Int) (r : Int) (w : World) (hr0_1 : Kd.C (Kd.int .u8) w A0_1 l0_1.length l0_1) (hc0_1 : l0_1.length ≤ c0_1) (h : ext_Check.f k a0_0 l0_1 = some r) :
    Calls Try.prog 62 #[.agg #[.int .i64 a0_0, .slice A0_1 l0_1.length c0_1]] w fun e w' => e = .returned (.int .i64 r) ∧ Below w.heap.size w w' := by
  have hu94 := Try.underlying94
  have HR0_1 := Aside0.mk hr0_1
  have HC0_1 := Aside0.mk hc0_1
  clear hr0_1 hc0_1
  have HB := Aside0.mk (Below.refl w.heap.size w)
  have H : (if a0_0 < 0 then (ext_Check.j0 k true a0_0 l0_1) else (ext_Check.j0 k (decide (a0_0 > 65535)) a0_0 l0_1)) = some r := h
  clear h
  have HC2 := Aside0.mk H
  clear H
  go_enter Try.func62, Try.ntmps62
  go_upto_region 1 with (first | ((with_reducible refine gate_dst (N := 1) rfl ?_); (try (refine gate_guard (by rfl) ?_; dsimp only)); refine box_event ?hg (N := 1) ?hd (cs := #[.int .i64 a0_0, .slice A0_1 l0_1.length c0_1]) (t := 94) ?hr ?_; (case hd => rfl); (case hg => rfl); (case hr => first | (go_simp; done) | (go_simp; rfl)); intro gb121 hg w3 hbox hb; have n0_ := Aside0.mk (below_step (by repeat (first | (with_reducible first | exact HB.out | apply below_alloc | apply pw_below_drewN | apply below_drew1) | exact HB.out)) hb); have n1_ := Aside0.mk (hbox); have n2_ := Aside0.mk ((by rw [hg]; exact (below_size (by repeat (first | (with_reducible first | exact HB.out | apply below_alloc | apply pw_below_drewN | apply below_drew1) | exact HB.out))) : w.heap.size ≤ gb121)); have n3_ := Aside0.mk ((by rw [hg]; exact (below_size (by repeat (first | (with_reducible first | exact HB.out | apply below_alloc | apply pw_below_drewN | apply below_drew1) | exact HB.out))) : w.heap.size ≤ gb121)); clear HB; have HB := n0_; have BK121 := n1_; have GW121 := n2_; have GE121 := n3_; clear n0_ n1_ n2_ n3_; clear hb hbox hg))
  (try simp only [Act.put, List.setIfInBounds_toArray, List.set_cons_zero, List.set_cons_succ])
  go_cut [10] (fun v10 wc => ∃ (kq : Nat) (x10_1 : Bool), v10 = .bool x10_1 ∧ Aside0 (ext_Check.j0 kq x10_1 a0_0 l0_1 = some r) ∧ Aside0 (kq ≤ k) ∧ Aside0 (wc.heap[gb121]? = some (.cells #[.int .i64 a0_0, (.slice A0_1 l0_1.length c0_1)] 94 (0, 0))) ∧ Aside0 (Below w.heap.size w wc))
  case first =>
    have H := HC2.out
    clear HC2
    by_cases c4 : a0_0 < 0
    · rw [if_pos c4] at H
      have c4b0 : decide (a0_0 < 0) = true := decide_eq_true c4
      clear c4
      (first | rw [c4b0] | (simp only [i64_w, i32_w]; rw [c4b0]) | skip)
      have H' := Aside0.mk H
      clear H
      have hcz5_0 : w3.cell? ⟨gb121, 0, none⟩ = some (.int .i64 a0_0) := (blk_cell BK121.out 0).trans rfl
      have hcz5_1 : w3.cell? ⟨gb121, 1, none⟩ = some (.slice A0_1 l0_1.length c0_1) := (blk_cell BK121.out 1).trans rfl
      have hfz5_0 := blk_frozen BK121.out 0
      have hfz5_1 := blk_frozen BK121.out 1
      go_wp2
      go_meet
      case rel => exact ⟨_, (true), (by first | rfl | (simp; done) | (simp [*]; done)), H', ⟨by first | omega | exact Nat.le_refl _⟩, ⟨by (with_reducible repeat (first | refine blk_drewN ?_ _ | refine blk_drew ?_ | refine blk_alloc ?_ _)); exact BK121.out⟩, ⟨by repeat (first | (with_reducible first | exact HB.out | apply below_alloc | apply pw_below_drewN | apply below_drew1 | refine below_set ?_ GE121.out) | exact HB.out)⟩⟩
    · rw [if_neg c4] at H
      have c4b0 : decide (a0_0 < 0) = false := decide_eq_false c4
      clear c4
      (first | rw [c4b0] | (simp only [i64_w, i32_w]; rw [c4b0]) | skip)
      have H' := Aside0.mk H
      clear H
      have hcz6_0 : w3.cell? ⟨gb121, 0, none⟩ = some (.int .i64 a0_0) := (blk_cell BK121.out 0).trans rfl
      have hcz6_1 : w3.cell? ⟨gb121, 1, none⟩ = some (.slice A0_1 l0_1.length c0_1) := (blk_cell BK121.out 1).trans rfl
      have hfz6_0 := blk_frozen BK121.out 0
      have hfz6_1 := blk_frozen BK121.out 1
      go_wp2
      go_meet
      case rel => exact ⟨_, (decide (a0_0 > 65535)), (by first | rfl | (simp; done) | (simp [*]; done)), H', ⟨by first | omega | exact Nat.le_refl _⟩, ⟨by (with_reducible repeat (first | refine blk_drewN ?_ _ | refine blk_drew ?_ | refine blk_alloc ?_ _)); exact BK121.out⟩, ⟨by repeat (first | (with_reducible first | exact HB.out | apply below_alloc | apply pw_below_drewN | apply below_drew1 | refine below_set ?_ GE121.out) | exact HB.out)⟩⟩
  case rest =>
    clear HC2
    try clear p2
    try clear c4
    try clear c4b0
    try clear c6
    try clear hcz5_0
    try clear hcz5_1
    try clear hcz6_0
    try clear hcz6_1
    try clear hfz5_0
    try clear hfz5_1
    try clear hfz6_0
    try clear hfz6_1
    obtain ⟨kq, x10_1, rfl, HA, HJ1, BK121, HB⟩ := hcut
    cases kq with
    | zero => exact absurd HA.out (by simp [ext_Check.j0])
    | succ kj1 =>
      have H := HA.out
      clear HA
      simp only [ext_Check.j0] at H
      by_cases c7 : x10_1 = true
      · subst c7
        have H1 : (some 3) = some r := by rw [if_pos rfl] at H; exact H
        clear H
        have H := H1
        clear H1
        obtain rfl := Option.some.inj H
        go_wp2
        go_ret
        exact ⟨by first | rfl | (simp [errW_none, errW_some] <;> rfl) | (simp [*, errW_none, errW_some] <;> rfl), by repeat (first | (with_reducible first | exact HB.out | apply below_alloc | apply pw_below_drewN | apply below_drew1 | refine below_set ?_ GE121.out) | exact HB.out)⟩
      · replace c7 := Bool.eq_false_iff.mpr c7
        subst c7
        have H1 : (if (l0_1.length : Int) < 12 then (some 7) else (if (l0_1.length : Int) > 256 then (some 7) else (if ((l0_1.length : Int) % 4) = 0 then (some 0) else (some 7)))) = some r := by rw [if_neg (show ¬ (false = true) by decide)] at H; exact H
        clear H
        have H := H1
        clear H1
        by_cases c8 : (l0_1.length : Int) < 12
        · rw [if_pos c8] at H
          have c8b0 : decide ((l0_1.length : Int) < 12) = true := decide_eq_true c8
          have c8b1 : decide (l0_1.length < 12) = true := decide_eq_true (by omega)
          clear c8
          obtain rfl := Option.some.inj H
          have hcz9_0 : wc.cell? ⟨gb121, 0, none⟩ = some (.int .i64 a0_0) := (blk_cell BK121.out 0).trans rfl
          have hcz9_1 : wc.cell? ⟨gb121, 1, none⟩ = some (.slice A0_1 l0_1.length c0_1) := (blk_cell BK121.out 1).trans rfl
          have hfz9_0 := blk_frozen BK121.out 0
          have hfz9_1 := blk_frozen BK121.out 1
          go_wp2
          go_ret
          exact ⟨by first | rfl | (simp [errW_none, errW_some] <;> rfl) | (simp [*, errW_none, errW_some] <;> rfl), by repeat (first | (with_reducible first | exact HB.out | apply below_alloc | apply pw_below_drewN | apply below_drew1 | refine below_set ?_ GE121.out) | exact HB.out)⟩
        · rw [if_neg c8] at H
          have c8b0 : decide ((l0_1.length : Int) < 12) = false := decide_eq_false c8
          have c8b1 : decide (l0_1.length < 12) = false := decide_eq_false (by omega)
          clear c8
          by_cases c10 : (l0_1.length : Int) > 256
          · rw [if_pos c10] at H
            have c10b0 : decide (256 < (l0_1.length : Int)) = true := decide_eq_true c10
            have c10b1 : decide (256 < l0_1.length) = true := decide_eq_true (by omega)
            clear c10
            obtain rfl := Option.some.inj H
            have hcz11_0 : wc.cell? ⟨gb121, 0, none⟩ = some (.int .i64 a0_0) := (blk_cell BK121.out 0).trans rfl
            have hcz11_1 : wc.cell? ⟨gb121, 1, none⟩ = some (.slice A0_1 l0_1.length c0_1) := (blk_cell BK121.out 1).trans rfl
            have hfz11_0 := blk_frozen BK121.out 0
            have hfz11_1 := blk_frozen BK121.out 1
            go_wp2
            go_ret
            exact ⟨by first | rfl | (simp [errW_none, errW_some] <;> rfl) | (simp [*, errW_none, errW_some] <;> rfl), by repeat (first | (with_reducible first | exact HB.out | apply below_alloc | apply pw_below_drewN | apply below_drew1 | refine below_set ?_ GE121.out) | exact HB.out)⟩
          · rw [if_neg c10] at H
            have c10b0 : decide (256 < (l0_1.length : Int)) = false := decide_eq_false c10
            have c10b1 : decide (256 < l0_1.length) = false := decide_eq_false (by omega)
            clear c10
            by_cases c12 : ((l0_1.length : Int) % 4) = 0
            · rw [if_pos c12] at H
              have c12b0 : (((l0_1.length : Int) % 4) == 0) = true := beq_iff_eq.mpr c12
              have c12b1 : (((l0_1.length : Int) % 4) != 0) = false := bne_eq_false_iff_eq.mpr c12
              clear c12
              obtain rfl := Option.some.inj H
              have hcz13_0 : wc.cell? ⟨gb121, 0, none⟩ = some (.int .i64 a0_0) := (blk_cell BK121.out 0).trans rfl
              have hcz13_1 : wc.cell? ⟨gb121, 1, none⟩ = some (.slice A0_1 l0_1.length c0_1) := (blk_cell BK121.out 1).trans rfl
              have hfz13_0 := blk_frozen BK121.out 0
              have hfz13_1 := blk_frozen BK121.out 1
              go_wp2
              go_ret
              exact ⟨by first | rfl | (simp [errW_none, errW_some] <;> rfl) | (simp [*, errW_none, errW_some] <;> rfl), by repeat (first | (with_reducible first | exact HB.out | apply below_alloc | apply pw_below_drewN | apply below_drew1 | refine below_set ?_ GE121.out) | exact HB.out)⟩
            · rw [if_neg c12] at H
              have c12b0 : (((l0_1.length : Int) % 4) == 0) = false := beq_eq_false_iff_ne.mpr c12
              have c12b1 : (((l0_1.length : Int) % 4) != 0) = true := bne_iff_ne.mpr c12
              obtain rfl := Option.some.inj H
              have hcz14_0 : wc.cell? ⟨gb121, 0, none⟩ = some (.int .i64 a0_0) := (blk_cell BK121.out 0).trans rfl
              have hcz14_1 : wc.cell? ⟨gb121, 1, none⟩ = some (.slice A0_1 l0_1.length c0_1) := (blk_cell BK121.out 1).trans rfl
              have hfz14_0 := blk_frozen BK121.out 0
              have hfz14_1 := blk_frozen BK121.out 1
              go_wp2
              go_ret
              exact ⟨by first | rfl | (simp [errW_none, errW_some] <;> rfl) | (simp [*, errW_none, errW_some] <;> rfl), by repeat (first | (with_reducible first | exact HB.out | apply below_alloc | apply pw_below_drewN | apply below_drew1 | refine below_set ?_ GE121.out) | exact HB.out)⟩

end Go.Proofs.Ytjbjkjlfikfeeaa.P
