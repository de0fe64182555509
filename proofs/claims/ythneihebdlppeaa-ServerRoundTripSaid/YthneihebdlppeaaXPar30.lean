/- ext.Parse of the bytes of fields that are valid: the fields. -/
import Derived.Test.YthneihebdlppeaaPureExt30
import Derived.Test.YthneihebdlppeaaPx9
import Derived.Laws.Slices
namespace Go.Proofs.Ythneihebdlppeaa.P
set_option linter.unusedVariables false
set_option linter.unusedSimpArgs false
open Go.RowKit Go.Proofs.YthneihebdlppeaaW.PrintWords Go.Proofs.YthneihebdlppeaaW.PrintLast Go.Proofs.YthneihebdlppeaaW.PrintMore Go.Proofs.Ythneihebdlppeaa.Rd

theorem ext_info : (Try.prog.info? 50).map (fun i => (i.zero, i.size, i.bytes)) = some (some (.agg #[.int .i64 0, .slice none 0 0]), 2, 32) := by kernel_rfl

/-! ### Get of a number that stands in bytes -/
theorem rdm (pre b post : List Int) (i : Nat) (hi : i < b.length) : rd (pre ++ (b ++ post)) ((pre.length + i : Nat) : Int) = rd b (i : Int) := by
  unfold rd
  rw [Int.toNat_natCast, Int.toNat_natCast, List.getD_eq_getElem?_getD, List.getD_eq_getElem?_getD, List.getElem?_append_right (by omega), List.getElem?_append_left (by omega)]
  congr 2
  omega
theorem byteE (x : Int) (h0 : 0 ≤ x) (h1 : x < 256) : IntKind.u64.wrap x = x := by rw [IntKind.wrap_u64]; omega
theorem getE_loop (pre B post : List Int) (s : Nat) (hb : B.length = s) (hB : bytesOk B) (h8 : s ≤ 8) (hp : pre.length ≤ 100000) : ∀ (m i k : Nat), i + m = s → m < k → wire_Get.l0 k (pre ++ (B ++ post)) pre.length (acc B i) s i = some (acc B s, 0) := by
  intro m
  induction m with
  | zero =>
    intro i k hi hk
    obtain ⟨k, rfl⟩ : ∃ k', k = k' + 1 := ⟨k - 1, by omega⟩
    obtain rfl : i = s := by omega
    rw [wire_Get.l0, if_neg (Int.lt_irrefl _)]
  | succ m ih =>
    intro i k hi hk
    obtain ⟨k, rfl⟩ : ∃ k', k = k' + 1 := ⟨k - 1, by omega⟩
    have e1 : wrap64 ((pre.length : Int) + i) = ((pre.length + i : Nat) : Int) := (swE _ (by omega) (by omega)).trans (by omega)
    have e2 : wrap64 ((i : Int) + 1) = ((i + 1 : Nat) : Int) := (swE _ (by omega) (by omega)).trans (by omega)
    have e3 : IntKind.u64.wrap (rd B (i : Int)) = rd B (i : Int) := byteE _ (rd_byte hB i).1 (Int.lt_of_le_of_lt (rd_byte hB i).2 (by decide))
    have e4 : rd (pre ++ (B ++ post)) ((pre.length + i : Nat) : Int) = rd B (i : Int) := rdm pre B post i (by omega)
    have c1 : (i : Int) < (s : Int) := by omega
    have c2 : (0 : Int) ≤ ((pre.length + i : Nat) : Int) := by omega
    have c3 : ((pre.length + i : Nat) : Int) < (((pre ++ (B ++ post)).length : Nat) : Int) := by rw [List.length_append, List.length_append]; omega
    rw [wire_Get.l0, if_pos c1, e1, e2, if_pos c2, if_pos c3, e4, e3]
    exact ih (i + 1) k (by omega) (by omega)
theorem getE (pre post : List Int) (n : Int) (h0 : 0 ≤ n) (h1 : n ≤ 65535) (hl : (pre ++ (be n 2 ++ post)).length ≤ 100000) : wire_Get.f 10 (pre ++ (be n 2 ++ post)) pre.length 2 = some (n, 0) := by
  have hb := be_length n 2
  have hlen : (pre ++ (be n 2 ++ post)).length = pre.length + (2 + post.length) := by rw [List.length_append, List.length_append, hb]
  rw [hlen] at hl
  have e4 : wrap64 ((((pre ++ (be n 2 ++ post)).length : Nat) : Int) - 2) = ((pre.length + post.length : Nat) : Int) := by rw [hlen]; exact (swE _ (by omega) (by omega)).trans (by omega)
  have hz := getE_loop pre (be n 2) post 2 hb (be_bytes n 2) (by decide) (by omega) 2 0 9 (by omega) (by omega)
  rw [acc_be n 2 h0 (Int.lt_of_le_of_lt h1 (by decide)) (by decide)] at hz
  have c3 : ¬ (pre.length : Int) < 0 := by omega
  have c4 : ¬ (pre.length : Int) > ((pre.length + post.length : Nat) : Int) := by omega
  unfold wire_Get.f wire_right.f
  rw [if_pos (by decide), Option.bind_some, if_pos (by decide), if_neg c3, e4, decide_eq_false c4, wire_Get.j0, if_neg (by decide)]
  exact hz
/-- What a round meets: the field x, behind it R. -/
structure ParR (l : List SE) (i : Nat) (x : SE) (R : List Int) (L m n : Nat) : Prop where
  rest : flatE (l.drop i) = encE x ++ R
  next : flatE (l.drop (i + 1)) = R
  take : l.take (i + 1) = l.take i ++ [x]
  x0 : 0 ≤ x.f0
  x1 : x.f0 ≤ 65535
  m0 : x.f1.length = m
  L0 : L = 4 + m
  n0 : (flatE (l.drop i)).length = n
  nL : n = L + R.length
  m12 : 12 ≤ m
  m256 : m ≤ 256
  m4 : m % 4 = 0
  big : n ≤ 10000
  i16 : i < 16
  g1 : wire_Get.f 10 (flatE (l.drop i)) 0 2 = some (x.f0, 0)
  g2 : wire_Get.f 10 (flatE (l.drop i)) 2 2 = some ((L : Int), 0)
  cut : ((flatE (l.drop i)).take L).drop 4 = x.f1
  rem : (flatE (l.drop i)).drop L = R
theorem parR_ok (l : List SE) (hl : l.length ≤ 16) (ho : ∀ x ∈ l, okE x) (i : Nat) (hi : i < l.length) : ∃ x R L m n, ParR l i x R L m n := by
  have hx := ho _ (List.getElem_mem hi)
  unfold okE at hx
  have hr : flatE (l.drop i) = encE l[i] ++ flatE (l.drop (i + 1)) := by rw [List.drop_eq_getElem_cons hi, flatE_cons]
  have hbig := flatE_len (l.drop i) (fun x hx => ho x (List.mem_of_mem_drop hx))
  rw [List.length_drop] at hbig
  have hen := encE_len l[i]
  have hln : (flatE (l.drop i)).length = (4 + l[i].f1.length) + (flatE (l.drop (i + 1))).length := by rw [hr, List.length_append, hen]
  have hb1 := be_length l[i].f0 2
  have hb2 := be_length ((4 + l[i].f1.length : Nat) : Int) 2
  have g1 := getE [] (be ((4 + l[i].f1.length : Nat) : Int) 2 ++ (l[i].f1 ++ flatE (l.drop (i + 1)))) l[i].f0 hx.1 hx.2.1 (by simp only [List.nil_append, List.length_append, hb1, hb2]; omega)
  have g2 := getE (be l[i].f0 2) (l[i].f1 ++ flatE (l.drop (i + 1))) ((4 + l[i].f1.length : Nat) : Int) (by omega) (by omega) (by simp only [List.length_append, hb1, hb2]; omega)
  have e1 : [] ++ (be l[i].f0 2 ++ (be ((4 + l[i].f1.length : Nat) : Int) 2 ++ (l[i].f1 ++ flatE (l.drop (i + 1))))) = flatE (l.drop i) := by rw [hr]; unfold encE; simp only [List.nil_append, List.append_assoc]
  have e2 : be l[i].f0 2 ++ (be ((4 + l[i].f1.length : Nat) : Int) 2 ++ (l[i].f1 ++ flatE (l.drop (i + 1)))) = flatE (l.drop i) := by rw [hr]; unfold encE; simp only [List.append_assoc]
  rw [e1] at g1
  rw [e2, hb1] at g2
  refine ⟨l[i], flatE (l.drop (i + 1)), 4 + l[i].f1.length, l[i].f1.length, _, hr, rfl, List.take_succ_eq_append_getElem hi, hx.1, hx.2.1, rfl, rfl, rfl, hln, hx.2.2.1, hx.2.2.2.1, hx.2.2.2.2, by omega, by omega, g1, g2, ?_, ?_⟩
  · rw [hr, List.take_left' hen]
    unfold encE
    rw [← List.append_assoc, List.drop_left' (by rw [List.length_append, hb1, hb2])]
  · rw [hr, List.drop_left' hen]
/-- b[4:L:L]. -/
theorem cut3 {P : Program} (t e : TypeId) {i : TypeInfo} (ht : P.underlying t = some (.slice e)) (hi : P.info? e = some i) (size : Nat) (hsz : i.size = size) (A : Option Addr) (n c L : Nat) (h1 : 4 < L) (h2 : L ≤ n) (hc : n ≤ c) :
    ∀ W : World, (Instr.slice t (.slice A n c) (some (.int .i64 4)) (some (.int .i64 (L : Int))) (some (.int .i64 (L : Int)))).run P W = .ok (.slice (A.map (·.add (4 * size))) (L - 4) (L - 4)) W := by
  intro W
  have hel : P.elem t = e := by simp [Program.elem, ht]
  have hu : P.underlying t = some (.slice (P.elem t)) := by rw [hel]; exact ht
  have e4 : (4 : Int).toNat = 4 := rfl
  rw [run_slice_lhm W t A n c hu .i64 .i64 .i64 4 L L (by omega) (by omega) (Int.le_refl _) (by omega), hel]
  simp [sizeOf, typeInfo, hi, hsz, sliced, Result.andThen, show ¬ L = 4 by omega]
theorem cutL {P : Program} (t e : TypeId) {i : TypeInfo} (ht : P.underlying t = some (.slice e)) (hi : P.info? e = some i) (size : Nat) (hsz : i.size = size) (A : Option Addr) (n c L : Nat) (h2 : L ≤ n) :
    ∀ W : World, (Instr.slice t (.slice A n c) (some (.int .i64 (L : Int))) none none).run P W = .ok (.slice (if c = L then A else A.map (·.add (L * size))) (n - L) (c - L)) W := by
  intro W
  have hel : P.elem t = e := by simp [Program.elem, ht]
  have hu : P.underlying t = some (.slice (P.elem t)) := by rw [hel]; exact ht
  rw [run_slice_l W t A n c hu .i64 L (by omega) (by omega), hel]
  simp [sizeOf, typeInfo, hi, hsz, sliced, Result.andThen]
def lenOf : Value → Nat
  | .slice _ i _ => i
  | _ => 0
def ParPost (w : World) (l : List SE) (e : Ending) (w' : World) : Prop := ∃ A c, e = .returned (.tuple #[.slice A l.length c, .slice none 0 0, .int .i64 0]) ∧ l.length ≤ c ∧ Kd.C k50 w' A l.length l ∧ Below w.heap.size w w'
set_option maxHeartbeats 4000000 in
set_option maxRecDepth 100000 in
theorem par_walk (l : List SE) (A : Option Addr) (c : Nat) (w : World) (hl : l.length ≤ 16) (ho : Hid (∀ x ∈ l, okE x)) (hr : Hid (Kd.C (Kd.int .u8) w A (flatE l).length (flatE l))) (hc : Hid ((flatE l).length ≤ c)) :
    Calls Try.prog 27 #[.slice A (flatE l).length c] w (ParPost w l) := by
  obtain ⟨i0, hi0, _, hsz, _⟩ := info_parts app_info
  obtain ⟨N0, hN0⟩ : ∃ N0, (flatE l).length = N0 := ⟨_, rfl⟩
  rw [hN0] at hr hc ⊢
  have HN0 := Lib.hid hN0
  clear hN0
  have HI0 := Lib.hid hi0
  have HSZ := Lib.hid hsz
  clear hi0 hsz
  go_enter Try.func27, Try.ntmps27
  go_wp2_with (fail)
  go_loopw [0, 5] (fun v0 v5 wr => ∃ (i n c : Nat) (A Al : Option Addr) (cl : Nat), v0 = .slice A n c ∧ v5 = .slice Al i cl ∧ Hid (i ≤ l.length) ∧ Hid ((flatE (l.drop i)).length = n ∧ n ≤ c) ∧ Hid (Kd.C (Kd.int .u8) w A n (flatE (l.drop i))) ∧ Hid (Kd.N k50 50 wr w.heap.size (fun _ => True) (.slice Al i cl) (l.take i)) ∧ Hid (Below w.heap.size w wr)) (fun _ v5 _ => l.length - lenOf v5)
  case atStart => exact ⟨0, N0, c, A, none, 0, rfl, rfl, Nat.zero_le _, ⟨by rw [List.drop_zero]; exact HN0.out, hc.out⟩, (show Kd.C _ _ _ _ _ by rw [List.drop_zero]; exact hr.out), (show Kd.N _ _ _ _ _ _ _ by rw [List.take_zero]; exact Kd.N_nil _ _ _ _ _), Below.refl _ _⟩
  case round =>
    obtain ⟨i, n, c, A, Al, cl, rfl, rfl, HI, HN, HC, HO, HB⟩ := hrel
    by_cases hi : i < l.length
    · obtain ⟨x, R, L, m, n', h⟩ := parR_ok l hl ho.out i hi
      obtain ⟨hn, hcn⟩ := HN.out
      obtain rfl : n = n' := hn.symm.trans h.n0
      have hL := h.L0
      have hnL := h.nL
      have hm := h.m12
      have hm2 := h.m256
      have hm4 := h.m4
      have hbig := h.big
      have hi16 := h.i16
      have d1 : decide (0 < (n : Int)) = true := decide_eq_true (by omega)
      have d2 : decide (0 < n) = true := decide_eq_true (by omega)
      have d3 : ((n : Int) == 12) = false := by simpa using (show ¬ (n : Int) = 12 by omega)
      have d4 : (n == 12) = false := by simpa using (show ¬ n = 12 by omega)
      have d5 : decide ((n : Int) < 16) = false := decide_eq_false (by omega)
      have d6 : decide (n < 16) = false := decide_eq_false (by omega)
      have d7 : decide ((L : Int) < 16) = false := decide_eq_false (by omega)
      have d8 : decide (L < 16) = false := decide_eq_false (by omega)
      have d9 : decide (n < L) = false := decide_eq_false (by omega)
      have da : ((i : Int) == 16) = false := by simpa using (show ¬ (i : Int) = 16 by omega)
      have db : (i == 16) = false := by simpa using (show ¬ i = 16 by omega)
      have dc : decide (256 < (m : Int)) = false := decide_eq_false (by omega)
      have dd : decide (256 < m) = false := decide_eq_false (by omega)
      have e1 : wrap64 (L : Int) = (L : Int) := swE _ (by omega) (by omega)
      have e2 : wrap64 ((L : Int) - 4) = (m : Int) := (swE _ (by omega) (by omega)).trans (by omega)
      have e3 : (L : Int).tmod 4 = 0 := by rw [Int.tmod_eq_emod_of_nonneg (by omega)]; omega
      have e4 : (L : Int) % 4 = 0 := by omega
      have e5 : wrap64 x.f0 = x.f0 := swE _ h.x0 (Int.le_trans h.x1 (by decide))
      have hcut := cut3 (P := Try.prog) 48 5 Try.underlying48 HI0.out 1 HSZ.out A n c L (by omega) (by omega) hcn
      have hdrop := cutL (P := Try.prog) 48 5 Try.underlying48 HI0.out 1 HSZ.out A n c L (by omega)
      have hnL2 : n - L = R.length := by omega
      have hL4 : L - 4 = m := by omega
      rw [hL4] at hcut
      rw [hnL2] at hdrop
      have hC0 := HC.out
      have hCd : Kd.C (Kd.int .u8) w (A.map (·.add (4 * 1))) m x.f1 := by
        have h1 := Kd.C_mid (lo := 4) (hi := L) (c := c) (k := Kd.int .u8) (w := w) (A := A) (xs := flatE (l.drop i)) (by rw [h.n0]; exact hC0) (by omega) (by rw [h.n0]; omega) (by rw [h.n0]; exact hcn)
        rw [h.cut, h.m0, if_neg (by omega)] at h1
        exact h1
      have hCr : Kd.C (Kd.int .u8) w (if c = L then A else A.map (·.add (L * 1))) R.length R := by
        have h1 := Kd.C_drop (m := L) (c := c) (k := Kd.int .u8) (w := w) (A := A) (xs := flatE (l.drop i)) (by rw [h.n0]; exact hC0) (by rw [h.n0]; omega) (by rw [h.n0]; exact hcn)
        rw [h.rem] at h1
        exact h1
      obtain ⟨A1, hA1⟩ : ∃ A1, A.map (·.add (4 * 1)) = A1 := ⟨_, rfl⟩
      rw [hA1] at hcut hCd
      obtain ⟨A2, hA2⟩ : ∃ A2, (if c = L then A else A.map (·.add (L * 1))) = A2 := ⟨_, rfl⟩
      rw [hA2] at hdrop hCr
      have HCD := Lib.hid hCd
      have HCR := Lib.hid hCr
      have HX := Lib.hid h
      have HCN := Lib.hid hcn
      have HG : Hid (Kd.C (Kd.int .u8) w A (flatE (l.drop i)).length (flatE (l.drop i)) ∧ (flatE (l.drop i)).length ≤ c ∧ (flatE (l.drop i)).length = n) := ⟨by rw [h.n0]; exact hC0, by rw [h.n0]; exact hcn, h.n0⟩
      have HGET : Hid (∀ (a r : Int) (W : World), Below w.heap.size w W → wire_Get.f 10 (flatE (l.drop i)) a 2 = some (r, 0) → Calls Try.prog 51 #[.slice A n c, .int .i64 a, .int .i64 2] W fun e w' => e = .returned (.tuple #[.int .u64 r, .int .i64 0]) ∧ Drawn0 W w') := by
        show ∀ _ _ _, _ → _ → _
        intro a r W hb hf
        have := wire_Get.calls 10 A c (flatE (l.drop i)) a 2 r 0 W (Kd.C_below HG.out.1 hb) HG.out.2.1 hf
        rw [HG.out.2.2] at this
        exact this
      have HL2 : Hid (R.length = n - L ∧ 4 < L ∧ L ≤ n ∧ m ≤ 256 ∧ i < 16 ∧ L ≤ 300) := ⟨by omega, by omega, by omega, by omega, by omega, by omega⟩
      have q1 := eq_true (show (0 : Int) ≤ (L : Int) by omega)
      have HTK : Hid ((l.take (i + 1)).length = i + 1) := (by rw [List.length_take]; omega : (l.take (i + 1)).length = i + 1)
      have HI2 : Hid (i + 1 ≤ l.length) := hi
      have HM : Hid (l.length - (i + 1) < l.length - i) := (by omega : l.length - (i + 1) < l.length - i)
      clear hA1 h hn hL hnL hm hm2 hm4 hbig hi16 hcn hC0 hCd hCr hA2 hnL2 hL4 HC HN HG hi
      go_wp2_with (first
        | (go_at_call 51; (first | (with_reducible refine (HGET.out 0 _ _ HB.out HX.out.g1).mono ?_) | (with_reducible refine (HGET.out 2 _ _ HB.out HX.out.g2).mono ?_)); rintro e w2 ⟨rfl, hb⟩; have hb2 := below_step HB.out hb.below; have ho2 := Kd.N_below HO.out hb.below; clear HB HO hb; have HB := Lib.hid hb2; have HO := Lib.hid ho2; clear hb2 ho2)
        | ((with_reducible refine gate_dst (N := 66) rfl ?_); refine Kd.R_lit (Kd.int .u8) (w0 := w2) w2.heap.size 5 ?hg (N := 66) ?hd (xs := ([] : List Int)) (inner := []) (ok := fun _ => True) (okp := fun _ => True) ?hr ?hp (fun _ hk => hk) trivial (Below.refl _ _) (Nat.le_refl _) (by simp) ?_; (case hd => rfl); (case hg => rfl); (case hr => first | (go_simp; done) | (go_simp; rfl)); (case hp => exact (Reps.none _ _)); intro v3 w3 ho3 hb3 _ _; have HO3 := Lib.hid ho3; have HB3 := Lib.hid hb3; clear ho3 hb3)
        | ((with_reducible refine gate_builtin (b := .append) (xs := #[.tmp 66, .tmp 67]) rfl ?_); at_builtin; refine Kd.R_append_rows (Kd.int .u8) (w0 := w2) w2.heap.size rfl (.tmp 66) (.tmp 67) 48 5 (.int .u8 0) 1 rfl Try.underlying48 app_info rfl (by decide) (by omega) v3 [] x.f1 A1 m m (fun _ => True) (fun _ => False) rfl rfl HO3.out (Kd.C_below HCD.out (below_step HB.out HB3.out)) (fun _ _ h => h) (fun _ h => h.elim) (fun _ _ => trivial) HB3.out HB3.out.size ?aL ?_; (case aL => have := HL2.out; simp; omega); intro v4 w4 ho4 hb4 _ _; rw [List.nil_append] at ho4; obtain ⟨A4, c4, rfl⟩ := Kd.R_slice ho4; have HO4 := Lib.hid ho4; have HB4 := Lib.hid hb4; have hNo := Kd.N_below HO.out hb4; have hbw := below_step HB.out hb4; have HNO := Lib.hid hNo; have HBW := Lib.hid hbw; have hlt := Kd.N_lt HO.out; have HLT := Lib.hid hlt; clear ho4 hb4 hNo hbw hlt)
        | ((with_reducible refine gate_builtin (b := .append) (xs := #[.tmp 63, .tmp 70]) rfl ?_); at_builtin; refine Kd.N_append k50 (w0 := w) w.heap.size rfl (.tmp 63) (.tmp 70) 47 50 (.agg #[.int .i64 0, .slice none 0 0]) 32 rfl Try.underlying47 ext_info rfl (by decide) (by omega) (.slice Al i cl) (l.take i) x [.int .i64 x.f0, .slice A4 x.f1.length c4] (fun _ => True) (fun k => w2.heap.size ≤ k) rfl rfl ?aP ?aK (fun _ _ => trivial) HNO.out HBW.out HBW.out.size ?aL ?_; (case aP => exact Kd.FK_of_M (k50_mkM w4 w2.heap.size (fun k => w2.heap.size ≤ k) x (Kd.R_mono (Kd.R_bound HO4.out) (fun k hk => hk.2.1)))); (case aK => intro k hk; exact ⟨trivial, fun e => by have := HLT.out k e.symm; omega⟩); (case aL => have := HL2.out; have := HI.out; rw [List.length_take]; omega); intro v5 w5 ho5 hb5 _ _; rw [← HX.out.take] at ho5; obtain ⟨A5, c5, e5⟩ := Kd.N_slice ho5; rw [HTK.out] at e5; subst e5; have HO5 := Lib.hid ho5; have HB5 := Lib.hid hb5; clear ho5 hb5))
      exact ⟨⟨i + 1, R.length, c - L, A2, A5, c5, rfl, rfl, HI2, ⟨by rw [HX.out.next], by have := HCN.out; have := HL2.out; omega⟩, (show Kd.C _ _ _ _ _ by rw [HX.out.next]; exact HCR.out), HO5, HB5⟩, HM.out⟩
    · obtain rfl : i = l.length := Nat.le_antisymm HI.out (by omega)
      obtain ⟨hn, _⟩ := HN.out
      rw [List.drop_of_length_le (Nat.le_refl _)] at hn
      obtain rfl : 0 = n := hn
      rw [List.take_of_length_le (Nat.le_refl _)] at HO
      clear hi HN HI
      go_wp2
      go_ret3
      obtain ⟨_, h1, h2⟩ := Kd.N_reads' HO.out
      exact ⟨Al, cl, rfl, h1, h2, HB.out⟩
end Go.Proofs.Ythneihebdlppeaa.P
