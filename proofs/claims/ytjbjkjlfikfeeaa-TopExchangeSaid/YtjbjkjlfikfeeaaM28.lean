/- Texts of this claim, laid together: each says itself what it proves. -/
import Derived.Test.YtjbjkjlfikfeeaaM25
import Derived.Test.YtjbjkjlfikfeeaaM27
import Derived.Laws.Slices
import Derived.Test.YtjbjkjlfikfeeaaM15
import Derived.Test.YtjbjkjlfikfeeaaM4
/- ext.Parse of the bytes of fields that are valid: the fields. -/
namespace Go.Proofs.Ytjbjkjlfikfeeaa.P
set_option linter.unusedVariables false
set_option linter.unusedSimpArgs false
open Go.RowKit Go.Proofs.YtjbjkjlfikfeeaaW.PrintWords Go.Proofs.YtjbjkjlfikfeeaaW.PrintLast Go.Proofs.YtjbjkjlfikfeeaaW.PrintMore Go.Proofs.Ytjbjkjlfikfeeaa.Rd

theorem ext_info : (Try.prog.info? 94).map (fun i => (i.zero, i.size, i.bytes)) = some (some (.agg #[.int .i64 0, .slice none 0 0]), 2, 32) := by kernel_rfl

/-! ### Get of a number that stands in bytes -/
theorem rdm (pre b post : List Int) (i : Nat) (hi : i < b.length) : rd (pre ++ (b ++ post)) ((pre.length + i : Nat) : Int) = rd b (i : Int) := by
  unfold rd
  rw [Int.toNat_natCast, Int.toNat_natCast, List.getD_eq_getElem?_getD, List.getD_eq_getElem?_getD, List.getElem?_append_right (by omega), List.getElem?_append_left (by omega)]
  congr 2
  omega
theorem byteE (x : Int) (h0 : 0 ≤ x) (h1 : x < 256) : IntKind.u64.wrap x = x := by rw [IntKind.wrap_u64]; omega
theorem getE_loop (pre B post : List Int) (s : Nat) (hb : B.length = s) (hB : bytesOk B) (h8 : s ≤ 8) (hp : pre.length ≤ 100000) : ∀ (m i k : Nat), i + m = s → m < k → wire_Get.l0 k (pre ++ (B ++ post)) pre.length (acc B i) s i = some (acc B s, 0) := by
  intro m
  induction m with
  | zero =>
    intro i k hi hk
    obtain ⟨k, rfl⟩ : ∃ k', k = k' + 1 := ⟨k - 1, by omega⟩
    obtain rfl : i = s := by omega
    rw [wire_Get.l0, if_neg (Int.lt_irrefl _)]
  | succ m ih =>
    intro i k hi hk
    obtain ⟨k, rfl⟩ : ∃ k', k = k' + 1 := ⟨k - 1, by omega⟩
    have e1 : wrap64 ((pre.length : Int) + i) = ((pre.length + i : Nat) : Int) := (swE _ (by omega) (by omega)).trans (by omega)
    have e2 : wrap64 ((i : Int) + 1) = ((i + 1 : Nat) : Int) := (swE _ (by omega) (by omega)).trans (by omega)
    have e3 : IntKind.u64.wrap (rd B (i : Int)) = rd B (i : Int) := byteE _ (rd_byte hB i).1 (Int.lt_of_le_of_lt (rd_byte hB i).2 (by decide))
    have e4 : rd (pre ++ (B ++ post)) ((pre.length + i : Nat) : Int) = rd B (i : Int) := rdm pre B post i (by omega)
    have c1 : (i : Int) < (s : Int) := by omega
    have c2 : (0 : Int) ≤ ((pre.length + i : Nat) : Int) := by omega
    have c3 : ((pre.length + i : Nat) : Int) < (((pre ++ (B ++ post)).length : Nat) : Int) := by rw [List.length_append, List.length_append]; omega
    rw [wire_Get.l0, if_pos c1, e1, e2, if_pos c2, if_pos c3, e4, e3]
    exact ih (i + 1) k (by omega) (by omega)
theorem getE (pre post : List Int) (n : Int) (h0 : 0 ≤ n) (h1 : n ≤ 65535) (hl : (pre ++ (be n 2 ++ post)).length ≤ 100000) : wire_Get.f 10 (pre ++ (be n 2 ++ post)) pre.length 2 = some (n, 0) := by
  have hb := be_length n 2
  have hlen : (pre ++ (be n 2 ++ post)).length = pre.length + (2 + post.length) := by rw [List.length_append, List.length_append, hb]
  rw [hlen] at hl
  have e4 : wrap64 ((((pre ++ (be n 2 ++ post)).length : Nat) : Int) - 2) = ((pre.length + post.length : Nat) : Int) := by rw [hlen]; exact (swE _ (by omega) (by omega)).trans (by omega)
  have hz := getE_loop pre (be n 2) post 2 hb (be_bytes n 2) (by decide) (by omega) 2 0 9 (by omega) (by omega)
  rw [acc_be n 2 h0 (Int.lt_of_le_of_lt h1 (by decide)) (by decide)] at hz
  have c3 : ¬ (pre.length : Int) < 0 := by omega
  have c4 : ¬ (pre.length : Int) > ((pre.length + post.length : Nat) : Int) := by omega
  unfold wire_Get.f wire_right.f
  rw [if_pos (by decide), Option.bind_some, if_pos (by decide), if_neg c3, e4, decide_eq_false c4, wire_Get.j0, if_neg (by decide)]
  exact hz
/-- What a round meets: the field x, behind it R. -/
structure ParR (l : List SE) (i : Nat) (x : SE) (R : List Int) (L m n : Nat) : Prop where
  rest : flatE (l.drop i) = encE x ++ R
  next : flatE (l.drop (i + 1)) = R
  take : l.take (i + 1) = l.take i ++ [x]
  x0 : 0 ≤ x.f0
  x1 : x.f0 ≤ 65535
  m0 : x.f1.length = m
  L0 : L = 4 + m
  n0 : (flatE (l.drop i)).length = n
  nL : n = L + R.length
  m12 : 12 ≤ m
  m256 : m ≤ 256
  m4 : m % 4 = 0
  big : n ≤ 10000
  i16 : i < 16
  g1 : wire_Get.f 10 (flatE (l.drop i)) 0 2 = some (x.f0, 0)
  g2 : wire_Get.f 10 (flatE (l.drop i)) 2 2 = some ((L : Int), 0)
  cut : ((flatE (l.drop i)).take L).drop 4 = x.f1
  rem : (flatE (l.drop i)).drop L = R
theorem parR_ok (l : List SE) (hl : l.length ≤ 16) (ho : ∀ x ∈ l, okE x) (i : Nat) (hi : i < l.length) : ∃ x R L m n, ParR l i x R L m n := by
  have hx := ho _ (List.getElem_mem hi)
  unfold okE at hx
  have hr : flatE (l.drop i) = encE l[i] ++ flatE (l.drop (i + 1)) := by rw [List.drop_eq_getElem_cons hi, flatE_cons]
  have hbig := flatE_len (l.drop i) (fun x hx => ho x (List.mem_of_mem_drop hx))
  rw [List.length_drop] at hbig
  have hen := encE_len l[i]
  have hln : (flatE (l.drop i)).length = (4 + l[i].f1.length) + (flatE (l.drop (i + 1))).length := by rw [hr, List.length_append, hen]
  have hb1 := be_length l[i].f0 2
  have hb2 := be_length ((4 + l[i].f1.length : Nat) : Int) 2
  have g1 := getE [] (be ((4 + l[i].f1.length : Nat) : Int) 2 ++ (l[i].f1 ++ flatE (l.drop (i + 1)))) l[i].f0 hx.1 hx.2.1 (by simp only [List.nil_append, List.length_append, hb1, hb2]; omega)
  have g2 := getE (be l[i].f0 2) (l[i].f1 ++ flatE (l.drop (i + 1))) ((4 + l[i].f1.length : Nat) : Int) (by omega) (by omega) (by simp only [List.length_append, hb1, hb2]; omega)
  have e1 : [] ++ (be l[i].f0 2 ++ (be ((4 + l[i].f1.length : Nat) : Int) 2 ++ (l[i].f1 ++ flatE (l.drop (i + 1))))) = flatE (l.drop i) := by rw [hr]; unfold encE; simp only [List.nil_append, List.append_assoc]
  have e2 : be l[i].f0 2 ++ (be ((4 + l[i].f1.length : Nat) : Int) 2 ++ (l[i].f1 ++ flatE (l.drop (i + 1)))) = flatE (l.drop i) := by rw [hr]; unfold encE; simp only [List.append_assoc]
  rw [e1] at g1
  rw [e2, hb1] at g2
  refine ⟨l[i], flatE (l.drop (i + 1)), 4 + l[i].f1.length, l[i].f1.length, _, hr, rfl, List.take_succ_eq_append_getElem hi, hx.1, hx.2.1, rfl, rfl, rfl, hln, hx.2.2.1, hx.2.2.2.1, hx.2.2.2.2, by omega, by omega, g1, g2, ?_, ?_⟩
  · rw [hr, List.take_left' hen]
    unfold encE
    rw [← List.append_assoc, List.drop_left' (by rw [List.length_append, hb1, hb2])]
  · rw [hr, List.drop_left' hen]
/-- b[4:L:L]. -/
theorem cut3 {P : Program} (t e : TypeId) {i : TypeInfo} (ht : P.underlying t = some (.slice e)) (hi : P.info? e = some i) (size : Nat) (hsz : i.size = size) (A : Option Addr) (n c L : Nat) (h1 : 4 < L) (h2 : L ≤ n) (hc : n ≤ c) :
    ∀ W : World, (Instr.slice t (.slice A n c) (some (.int .i64 4)) (some (.int .i64 (L : Int))) (some (.int .i64 (L : Int)))).run P W = .ok (.slice (A.map (·.add (4 * size))) (L - 4) (L - 4)) W := by
  intro W
  have hel : P.elem t = e := by simp [Program.elem, ht]
  have hu : P.underlying t = some (.slice (P.elem t)) := by rw [hel]; exact ht
  have e4 : (4 : Int).toNat = 4 := rfl
  rw [run_slice_lhm W t A n c hu .i64 .i64 .i64 4 L L (by omega) (by omega) (Int.le_refl _) (by omega), hel]
  simp [sizeOf, typeInfo, hi, hsz, sliced, Result.andThen, show ¬ L = 4 by omega]
theorem cutL {P : Program} (t e : TypeId) {i : TypeInfo} (ht : P.underlying t = some (.slice e)) (hi : P.info? e = some i) (size : Nat) (hsz : i.size = size) (A : Option Addr) (n c L : Nat) (h2 : L ≤ n) :
    ∀ W : World, (Instr.slice t (.slice A n c) (some (.int .i64 (L : Int))) none none).run P W = .ok (.slice (if c = L then A else A.map (·.add (L * size))) (n - L) (c - L)) W := by
  intro W
  have hel : P.elem t = e := by simp [Program.elem, ht]
  have hu : P.underlying t = some (.slice (P.elem t)) := by rw [hel]; exact ht
  rw [run_slice_l W t A n c hu .i64 L (by omega) (by omega), hel]
  simp [sizeOf, typeInfo, hi, hsz, sliced, Result.andThen]
def lenOf : Value → Nat
  | .slice _ i _ => i
  | _ => 0
def ParPost (w : World) (l : List SE) (e : Ending) (w' : World) : Prop := ∃ A c, e = .returned (.tuple #[.slice A l.length c, .slice none 0 0, .int .i64 0]) ∧ l.length ≤ c ∧ Kd.C k94 w' A l.length l ∧ Below w.heap.size w w'
set_option maxHeartbeats 4000000 in
set_option maxRecDepth 100000 in
theorem par_walk (l : List SE) (A : Option Addr) (c : Nat) (w : World) (hl : l.length ≤ 16) (ho : Hid (∀ x ∈ l, okE x)) (hr : Hid (Kd.C (Kd.int .u8) w A (flatE l).length (flatE l))) (hc : Hid ((flatE l).length ≤ c)) :
    Calls Try.prog 17 #[.slice A (flatE l).length c] w (ParPost w l) := by
  obtain ⟨i0, hi0, _, hsz, _⟩ := info_parts app_info
  obtain ⟨N0, hN0⟩ : ∃ N0, (flatE l).length = N0 := ⟨_, rfl⟩
  rw [hN0] at hr hc ⊢
  have HN0 := Lib.hid hN0
  clear hN0
  have HI0 := Lib.hid hi0
  have HSZ := Lib.hid hsz
  clear hi0 hsz
  go_enter Try.func17, Try.ntmps17
  go_wp2_with (fail)
  go_loopw [0, 5] (fun v0 v5 wr => ∃ (i n c : Nat) (A Al : Option Addr) (cl : Nat), v0 = .slice A n c ∧ v5 = .slice Al i cl ∧ Hid (i ≤ l.length) ∧ Hid ((flatE (l.drop i)).length = n ∧ n ≤ c) ∧ Hid (Kd.C (Kd.int .u8) w A n (flatE (l.drop i))) ∧ Hid (Kd.N k94 94 wr w.heap.size (fun _ => True) (.slice Al i cl) (l.take i)) ∧ Hid (Below w.heap.size w wr)) (fun _ v5 _ => l.length - lenOf v5)
  case atStart => exact ⟨0, N0, c, A, none, 0, rfl, rfl, Nat.zero_le _, ⟨by rw [List.drop_zero]; exact HN0.out, hc.out⟩, (show Kd.C _ _ _ _ _ by rw [List.drop_zero]; exact hr.out), (show Kd.N _ _ _ _ _ _ _ by rw [List.take_zero]; exact Kd.N_nil _ _ _ _ _), Below.refl _ _⟩
  case round =>
    obtain ⟨i, n, c, A, Al, cl, rfl, rfl, HI, HN, HC, HO, HB⟩ := hrel
    by_cases hi : i < l.length
    · obtain ⟨x, R, L, m, n', h⟩ := parR_ok l hl ho.out i hi
      obtain ⟨hn, hcn⟩ := HN.out
      obtain rfl : n = n' := hn.symm.trans h.n0
      have hL := h.L0
      have hnL := h.nL
      have hm := h.m12
      have hm2 := h.m256
      have hm4 := h.m4
      have hbig := h.big
      have hi16 := h.i16
      have d1 : decide (0 < (n : Int)) = true := decide_eq_true (by omega)
      have d2 : decide (0 < n) = true := decide_eq_true (by omega)
      have d3 : ((n : Int) == 12) = false := by simpa using (show ¬ (n : Int) = 12 by omega)
      have d4 : (n == 12) = false := by simpa using (show ¬ n = 12 by omega)
      have d5 : decide ((n : Int) < 16) = false := decide_eq_false (by omega)
      have d6 : decide (n < 16) = false := decide_eq_false (by omega)
      have d7 : decide ((L : Int) < 16) = false := decide_eq_false (by omega)
      have d8 : decide (L < 16) = false := decide_eq_false (by omega)
      have d9 : decide (n < L) = false := decide_eq_false (by omega)
      have da : ((i : Int) == 16) = false := by simpa using (show ¬ (i : Int) = 16 by omega)
      have db : (i == 16) = false := by simpa using (show ¬ i = 16 by omega)
      have dc : decide (256 < (m : Int)) = false := decide_eq_false (by omega)
      have dd : decide (256 < m) = false := decide_eq_false (by omega)
      have e1 : wrap64 (L : Int) = (L : Int) := swE _ (by omega) (by omega)
      have e2 : wrap64 ((L : Int) - 4) = (m : Int) := (swE _ (by omega) (by omega)).trans (by omega)
      have e3 : (L : Int).tmod 4 = 0 := by rw [Int.tmod_eq_emod_of_nonneg (by omega)]; omega
      have e4 : (L : Int) % 4 = 0 := by omega
      have e5 : wrap64 x.f0 = x.f0 := swE _ h.x0 (Int.le_trans h.x1 (by decide))
      have hcut := cut3 (P := Try.prog) 53 5 Try.underlying53 HI0.out 1 HSZ.out A n c L (by omega) (by omega) hcn
      have hdrop := cutL (P := Try.prog) 53 5 Try.underlying53 HI0.out 1 HSZ.out A n c L (by omega)
      have hnL2 : n - L = R.length := by omega
      have hL4 : L - 4 = m := by omega
      rw [hL4] at hcut
      rw [hnL2] at hdrop
      have hC0 := HC.out
      have hCd : Kd.C (Kd.int .u8) w (A.map (·.add (4 * 1))) m x.f1 := by
        have h1 := Kd.C_mid (lo := 4) (hi := L) (c := c) (k := Kd.int .u8) (w := w) (A := A) (xs := flatE (l.drop i)) (by rw [h.n0]; exact hC0) (by omega) (by rw [h.n0]; omega) (by rw [h.n0]; exact hcn)
        rw [h.cut, h.m0, if_neg (by omega)] at h1
        exact h1
      have hCr : Kd.C (Kd.int .u8) w (if c = L then A else A.map (·.add (L * 1))) R.length R := by
        have h1 := Kd.C_drop (m := L) (c := c) (k := Kd.int .u8) (w := w) (A := A) (xs := flatE (l.drop i)) (by rw [h.n0]; exact hC0) (by rw [h.n0]; omega) (by rw [h.n0]; exact hcn)
        rw [h.rem] at h1
        exact h1
      obtain ⟨A1, hA1⟩ : ∃ A1, A.map (·.add (4 * 1)) = A1 := ⟨_, rfl⟩
      rw [hA1] at hcut hCd
      obtain ⟨A2, hA2⟩ : ∃ A2, (if c = L then A else A.map (·.add (L * 1))) = A2 := ⟨_, rfl⟩
      rw [hA2] at hdrop hCr
      have HCD := Lib.hid hCd
      have HCR := Lib.hid hCr
      have HX := Lib.hid h
      have HCN := Lib.hid hcn
      have HG : Hid (Kd.C (Kd.int .u8) w A (flatE (l.drop i)).length (flatE (l.drop i)) ∧ (flatE (l.drop i)).length ≤ c ∧ (flatE (l.drop i)).length = n) := ⟨by rw [h.n0]; exact hC0, by rw [h.n0]; exact hcn, h.n0⟩
      have HGET : Hid (∀ (a r : Int) (W : World), Below w.heap.size w W → wire_Get.f 10 (flatE (l.drop i)) a 2 = some (r, 0) → Calls Try.prog 44 #[.slice A n c, .int .i64 a, .int .i64 2] W fun e w' => e = .returned (.tuple #[.int .u64 r, .int .i64 0]) ∧ Drawn0 W w') := by
        show ∀ _ _ _, _ → _ → _
        intro a r W hb hf
        have := wire_Get.calls 10 A c (flatE (l.drop i)) a 2 r 0 W (Kd.C_below HG.out.1 hb) HG.out.2.1 hf
        rw [HG.out.2.2] at this
        exact this
      have HL2 : Hid (R.length = n - L ∧ 4 < L ∧ L ≤ n ∧ m ≤ 256 ∧ i < 16 ∧ L ≤ 300) := ⟨by omega, by omega, by omega, by omega, by omega, by omega⟩
      have q1 := eq_true (show (0 : Int) ≤ (L : Int) by omega)
      have HTK : Hid ((l.take (i + 1)).length = i + 1) := (by rw [List.length_take]; omega : (l.take (i + 1)).length = i + 1)
      have HI2 : Hid (i + 1 ≤ l.length) := hi
      have HM : Hid (l.length - (i + 1) < l.length - i) := (by omega : l.length - (i + 1) < l.length - i)
      clear hA1 h hn hL hnL hm hm2 hm4 hbig hi16 hcn hC0 hCd hCr hA2 hnL2 hL4 HC HN HG hi
      go_wp2_with (first
        | (go_at_call 44; (first | (with_reducible refine (HGET.out 0 _ _ HB.out HX.out.g1).mono ?_) | (with_reducible refine (HGET.out 2 _ _ HB.out HX.out.g2).mono ?_)); rintro e w2 ⟨rfl, hb⟩; have hb2 := below_step HB.out hb.below; have ho2 := Kd.N_below HO.out hb.below; clear HB HO hb; have HB := Lib.hid hb2; have HO := Lib.hid ho2; clear hb2 ho2)
        | ((with_reducible refine gate_dst (N := 66) rfl ?_); refine Kd.R_lit (Kd.int .u8) (w0 := w2) w2.heap.size 5 ?hg (N := 66) ?hd (xs := ([] : List Int)) (inner := []) (ok := fun _ => True) (okp := fun _ => True) ?hr ?hp (fun _ hk => hk) trivial (Below.refl _ _) (Nat.le_refl _) (by simp) ?_; (case hd => rfl); (case hg => rfl); (case hr => first | (go_simp; done) | (go_simp; rfl)); (case hp => exact (Reps.none _ _)); intro v3 w3 ho3 hb3 _ _; have HO3 := Lib.hid ho3; have HB3 := Lib.hid hb3; clear ho3 hb3)
        | ((with_reducible refine gate_builtin (b := .append) (xs := #[.tmp 66, .tmp 67]) rfl ?_); at_builtin; refine Kd.R_append_rows (Kd.int .u8) (w0 := w2) w2.heap.size rfl (.tmp 66) (.tmp 67) 53 5 (.int .u8 0) 1 rfl Try.underlying53 app_info rfl (by decide) (by omega) v3 [] x.f1 A1 m m (fun _ => True) (fun _ => False) rfl rfl HO3.out (Kd.C_below HCD.out (below_step HB.out HB3.out)) (fun _ _ h => h) (fun _ h => h.elim) (fun _ _ => trivial) HB3.out HB3.out.size ?aL ?_; (case aL => have := HL2.out; simp; omega); intro v4 w4 ho4 hb4 _ _; rw [List.nil_append] at ho4; obtain ⟨A4, c4, rfl⟩ := Kd.R_slice ho4; have HO4 := Lib.hid ho4; have HB4 := Lib.hid hb4; have hNo := Kd.N_below HO.out hb4; have hbw := below_step HB.out hb4; have HNO := Lib.hid hNo; have HBW := Lib.hid hbw; have hlt := Kd.N_lt HO.out; have HLT := Lib.hid hlt; clear ho4 hb4 hNo hbw hlt)
        | ((with_reducible refine gate_builtin (b := .append) (xs := #[.tmp 63, .tmp 70]) rfl ?_); at_builtin; refine Kd.N_append k94 (w0 := w) w.heap.size rfl (.tmp 63) (.tmp 70) 59 94 (.agg #[.int .i64 0, .slice none 0 0]) 32 rfl Try.underlying59 ext_info rfl (by decide) (by omega) (.slice Al i cl) (l.take i) x [.int .i64 x.f0, .slice A4 x.f1.length c4] (fun _ => True) (fun k => w2.heap.size ≤ k) rfl rfl ?aP ?aK (fun _ _ => trivial) HNO.out HBW.out HBW.out.size ?aL ?_; (case aP => exact Kd.FK_of_M (k94_mkM w4 w2.heap.size (fun k => w2.heap.size ≤ k) x (Kd.R_mono (Kd.R_bound HO4.out) (fun k hk => hk.2.1)))); (case aK => intro k hk; exact ⟨trivial, fun e => by have := HLT.out k e.symm; omega⟩); (case aL => have := HL2.out; have := HI.out; rw [List.length_take]; omega); intro v5 w5 ho5 hb5 _ _; rw [← HX.out.take] at ho5; obtain ⟨A5, c5, e5⟩ := Kd.N_slice ho5; rw [HTK.out] at e5; subst e5; have HO5 := Lib.hid ho5; have HB5 := Lib.hid hb5; clear ho5 hb5))
      exact ⟨⟨i + 1, R.length, c - L, A2, A5, c5, rfl, rfl, HI2, ⟨by rw [HX.out.next], by have := HCN.out; have := HL2.out; omega⟩, (show Kd.C _ _ _ _ _ by rw [HX.out.next]; exact HCR.out), HO5, HB5⟩, HM.out⟩
    · obtain rfl : i = l.length := Nat.le_antisymm HI.out (by omega)
      obtain ⟨hn, _⟩ := HN.out
      rw [List.drop_of_length_le (Nat.le_refl _)] at hn
      obtain rfl : 0 = n := hn
      rw [List.take_of_length_le (Nat.le_refl _)] at HO
      clear hi HN HI
      go_wp2
      go_ret3
      obtain ⟨_, h1, h2⟩ := Kd.N_reads' HO.out
      exact ⟨Al, cl, rfl, h1, h2, HB.out⟩
end Go.Proofs.Ytjbjkjlfikfeeaa.P
/- TopExchange: what is held, and the calls as they stand in the walk. -/
namespace Go.Proofs.Ytjbjkjlfikfeeaa.P
open Go.RowKit Go.Proofs.YtjbjkjlfikfeeaaW.PrintWords Go.Proofs.YtjbjkjlfikfeeaaW.PrintLast Go.Proofs.YtjbjkjlfikfeeaaW.PrintMore Go.Proofs.Ytjbjkjlfikfeeaa.Rd
/-- What is held: one block that may change, blocks that do not. -/
structure TS (w W : World) (g : Nat) (a : List Value) (t : TypeId) (L : List (Nat × List Value × TypeId)) : Prop where
  one : Blk W g a t
  ne : ∀ x ∈ L, x.1 ≠ g
  held : ∀ x ∈ L, Blk W x.1 x.2.1 x.2.2
  low : Below w.heap.size w W
  g0 : w.heap.size ≤ g
  old : ∀ x ∈ L, w.heap.size ≤ x.1
section
variable {w W W' : World} {g q : Nat} {a b cs : List Value} {t u : TypeId} {L : List (Nat × List Value × TypeId)}
theorem TS.below (h : TS w W g a t L) (hb : Below W.heap.size W W') : TS w W' g a t L :=
  ⟨h.one.below hb, h.ne, fun x hx => (h.held x hx).below hb, below_step h.low hb, h.g0, h.old⟩
theorem TS.get (h : TS w W g a t L) (i : Nat) (hi : L[i]? = some (q, cs, u)) : Blk W q cs u := h.held _ (List.mem_of_getElem? hi)
theorem TS.cons (h : TS w W g a t L) (hb : Below W.heap.size W W') (hk : Blk W' q cs u) (hq : W.heap.size ≤ q) : TS w W' g a t ((q, cs, u) :: L) := by
  have h' := h.below hb
  refine ⟨h'.one, fun x hx => ?_, fun x hx => ?_, h'.low, h'.g0, fun x hx => ?_⟩
  · rcases List.mem_cons.1 hx with rfl | hx
    · have := lt_of_blk h.one
      show q ≠ g
      omega
    · exact h.ne x hx
  · rcases List.mem_cons.1 hx with rfl | hx
    · exact hk
    · exact h'.held x hx
  · rcases List.mem_cons.1 hx with rfl | hx
    · exact Nat.le_trans h.low.size hq
    · exact h.old x hx
theorem TS.upd (h : TS w W g a t L) (hu : Upd W W' g) (ho : Blk W' g b t) : TS w W' g b t L :=
  ⟨ho, h.ne, fun x hx => (h.held x hx).upd hu (h.ne x hx), hu.below h.low h.g0 h.low.size, h.g0, h.old⟩
theorem TS.sub {L' : List (Nat × List Value × TypeId)} (h : TS w W g a t L) (hL : ∀ x ∈ L', x ∈ L) : TS w W g a t L' :=
  ⟨h.one, fun x hx => h.ne x (hL x hx), fun x hx => h.held x (hL x hx), h.low, h.g0, fun x hx => h.old x (hL x hx)⟩
/-- Another block is the one that may change. -/
theorem TS.shift {L' : List (Nat × List Value × TypeId)} (h : TS w W g a t L) (hu : Upd W W' g) (i : Nat) (hi : L[i]? = some (q, cs, u)) (hL : ∀ x ∈ L', x ∈ L ∧ x.2.2 ≠ u) : TS w W' q cs u L' :=
  ⟨(h.get i hi).upd hu (h.ne _ (List.mem_of_getElem? hi)), fun x hx => blk_ne (h.held x (hL x hx).1) (h.get i hi) (hL x hx).2, fun x hx => (h.held x (hL x hx).1).upd hu (h.ne x (hL x hx).1), hu.below h.low h.g0 h.low.size, h.old _ (List.mem_of_getElem? hi), fun x hx => h.old x (hL x hx).1⟩
end
theorem dec_call (BB R : List Int) (L V M S P C d1 d2 d3 d4 d5 d6 d7 : Int) (N m c : Nat) (A : Option Addr) (W : World) (hN : BB.length = N) (hm : R.length = m) (hC : Kd.C (Kd.int .u8) W A N BB) (hc : N ≤ c) (hf : ntpmsg_Decode.f BB = some (L, V, M, S, P, C, d1, d2, d3, d4, d5, d6, d7, R, 0)) :
    Calls Try.prog 16 #[.slice A N c] W fun e w' => ∃ B k, e = .returned (.tuple #[.agg #[.int .i64 L, .int .i64 V, .int .i64 M, .int .i64 S, .int .i64 P, .int .i64 C, .int .u32 d1, .int .u32 d2, .int .u32 d3, .int .u64 d4, .int .u64 d5, .int .u64 d6, .int .u64 d7], .slice B m k, .int .i64 0]) ∧ m ≤ k ∧ Kd.C (Kd.int .u8) w' B m R ∧ Below W.heap.size W w' := by
  subst hN
  subst hm
  refine (ntpmsg_Decode.calls A c BB L V M S P C d1 d2 d3 d4 d5 d6 d7 R 0 W hC hc hf).mono ?_
  rintro e w' ⟨v, rfl, ho, hb⟩
  obtain ⟨B, k, rfl, hk, hB⟩ := Kd.R_reads ho
  exact ⟨B, k, rfl, hk, hB, hb⟩
theorem flatE_one (x : SE) : flatE [x] = encE x := by rw [flatE_cons]; simp [flatE]
theorem par_call (x : SE) (m c : Nat) (A : Option Addr) (W : World) (hx : okE x) (hm : (encE x).length = m) (hC : Kd.C (Kd.int .u8) W A m (encE x)) (hc : m ≤ c) :
    Calls Try.prog 17 #[.slice A m c] W fun e w' => ∃ B k, e = .returned (.tuple #[.slice B 1 k, .slice none 0 0, .int .i64 0]) ∧ 1 ≤ k ∧ Kd.C k94 w' B 1 [x] ∧ Below W.heap.size W w' := by
  have hf := flatE_one x
  rw [← hf] at hm hC
  subst hm
  refine (par_walk [x] A c W (by simp) (fun y hy => by rw [List.mem_singleton] at hy; subst hy; exact hx) hC hc).mono ?_
  rintro e w' ⟨B, k, rfl, hk, hB, hb⟩
  exact ⟨B, k, rfl, hk, hB, hb⟩
theorem iv_call1 (lo hi : Int) (k : Nat) (A : Option Addr) (W : World) (hv : chkV lo hi) (hC : Kd.C k94 W A 1 [ivF lo hi]) (hk : 1 ≤ k) :
    Calls Try.prog 18 #[.slice A 1 k] W fun e w' => e = .returned (.tuple #[.agg #[.int .i64 lo, .int .i64 hi], .int .i64 0]) ∧ Below W.heap.size W w' := by
  refine server_Interval.calls 200 A k [ivF lo hi] lo hi 0 W hC hk ?_
  rw [interval_eq [ivF lo hi] (by simp) (fun y hy => by rw [List.mem_singleton] at hy; subst hy; exact ⟨Nat.lt_of_le_of_lt (Nat.le_of_eq (ivB_len lo hi)) (by decide), ivB_bytes lo hi⟩) 200 (by simp), iv_one lo hi hv]
theorem eqA33 (d : Nat) (w : World) (x0 y0 : Int) (x1 y1 : Int) :
    (Op.equalIn (d + 2) 33 (.agg #[.int .i64 x0, .int .i64 x1]) (.agg #[.int .i64 y0, .int .i64 y1])).run Try.prog w = .ok (x0 == y0 && (x1 == y1)) w := by
  refine eqA_of Try.underlying33 (by kernel_rfl) ?_
  refine eqf_cons (by rfl) (by go_simp; rfl) (by go_simp; rfl) (by go_simp) ?_
  exact eqf_last (by rfl) (by go_simp; rfl) (by go_simp; rfl) (by go_simp)
theorem eqA40 (d : Nat) (w : World) (x0 y0 : Int) (x1 y1 : Int) (x2 y2 : Int) (x3 y3 : Int) :
    (Op.equalIn (d + 2) 40 (.agg #[.int .i64 x0, .int .i64 x1, .int .i64 x2, .int .i64 x3]) (.agg #[.int .i64 y0, .int .i64 y1, .int .i64 y2, .int .i64 y3])).run Try.prog w = .ok (x0 == y0 && (x1 == y1 && (x2 == y2 && (x3 == y3)))) w := by
  refine eqA_of Try.underlying40 (by kernel_rfl) ?_
  refine eqf_cons (by rfl) (by go_simp; rfl) (by go_simp; rfl) (by go_simp) ?_
  refine eqf_cons (by rfl) (by go_simp; rfl) (by go_simp; rfl) (by go_simp) ?_
  refine eqf_cons (by rfl) (by go_simp; rfl) (by go_simp; rfl) (by go_simp) ?_
  exact eqf_last (by rfl) (by go_simp; rfl) (by go_simp; rfl) (by go_simp)
end Go.Proofs.Ytjbjkjlfikfeeaa.P
/- The law TopExchange: its walk where the guards let the input in. -/
namespace Go.Proofs.Ytjbjkjlfikfeeaa.P
set_option linter.unusedVariables false
set_option linter.unusedSimpArgs false
open Go.RowKit Go.Proofs.YtjbjkjlfikfeeaaW.PrintWords Go.Proofs.YtjbjkjlfikfeeaaW.PrintLast Go.Proofs.YtjbjkjlfikfeeaaW.PrintMore Go.Proofs.Ytjbjkjlfikfeeaa.Rd
attribute [local go_sem high] eqA33 eqA40
def root0 : List Value := [.int .i64 0, .int .i64 0, .int .i64 0, .int .u32 0]
def iv0 : List Value := [.int .i64 0, .int .i64 0]
theorem below_put2 {N : Nat} {w W : World} {q : Nat} (h : Below N w W) (hq : N ≤ q) {a b : Value} : Below N w ((W.setCell ⟨q, 0, none⟩ a).setCell ⟨q, 1, none⟩ b) := (h.setCell (p := ⟨q, 0, none⟩) hq a).setCell (p := ⟨q, 1, none⟩) hq b
theorem Blk.put2 {W : World} {q : Nat} {t : TypeId} {b0 b1 a b : Value} (h : Blk W q [b0, b1] t) : Blk ((W.setCell ⟨q, 0, none⟩ a).setCell ⟨q, 1, none⟩ b) q [a, b] t := (h.store 0 a).store 1 b
def smpL (o dl fin : Int) : List Value := [.int .i64 o, .int .i64 dl, .int .i64 1, .int .i64 fin]
def rtL (dl jp : Int) : List Value := [.int .i64 2, .int .i64 dl, .int .i64 jp, .int .u32 7]
def put6 (W : World) (q : Nat) (a b c d e f : Value) : World := (((((W.setCell ⟨q, 0, none⟩ a).setCell ⟨q, 1, none⟩ b).setCell ⟨q, 2, none⟩ c).setCell ⟨q, 3, none⟩ d).setCell ⟨q, 4, none⟩ e).setCell ⟨q, 5, none⟩ f
theorem Blk.put6 {W : World} {q : Nat} {t : TypeId} {b0 b1 b2 b3 b4 b5 a b c d e f : Value} (h : Blk W q [b0, b1, b2, b3, b4, b5] t) : Blk (put6 W q a b c d e f) q [a, b, c, d, e, f] t := (((((h.store 0 a).store 1 b).store 2 c).store 3 d).store 4 e).store 5 f
theorem below_put6 {N : Nat} {w W : World} {q : Nat} (h : Below N w W) (hq : N ≤ q) {a b c d e f : Value} : Below N w (put6 W q a b c d e f) := (((((h.setCell (p := ⟨q, 0, none⟩) hq a).setCell (p := ⟨q, 1, none⟩) hq b).setCell (p := ⟨q, 2, none⟩) hq c).setCell (p := ⟨q, 3, none⟩) hq d).setCell (p := ⟨q, 4, none⟩) hq e).setCell (p := ⟨q, 5, none⟩) hq f
/-- What holds at each step of the region of the reply. -/
abbrev Keep14 (w0 w' : World) (g8 g13 g14 : Nat) (n lo hi : Int) : Prop := w'.cell? ⟨g8, 0, none⟩ = some (.int .i64 0) ∧ w'.cell? ⟨g8, 1, none⟩ = some (.int .i64 4) ∧ w'.cell? ⟨g8, 2, none⟩ = some (.int .i64 3) ∧ w'.cell? ⟨g8, 3, none⟩ = some (.int .i64 0) ∧ w'.cell? ⟨g8, 4, none⟩ = some (.int .i64 0) ∧ w'.cell? ⟨g8, 5, none⟩ = some (.int .i64 0) ∧ w'.cell? ⟨g8, 6, none⟩ = some (.int .u32 0) ∧ w'.cell? ⟨g8, 7, none⟩ = some (.int .u32 0) ∧ w'.cell? ⟨g8, 8, none⟩ = some (.int .u32 0) ∧ w'.cell? ⟨g8, 9, none⟩ = some (.int .u64 0) ∧ w'.cell? ⟨g8, 10, none⟩ = some (.int .u64 0) ∧ w'.cell? ⟨g8, 11, none⟩ = some (.int .u64 0) ∧ w'.cell? ⟨g8, 12, none⟩ = some (.int .u64 n) ∧ w'.cell? ⟨g13, 0, none⟩ = some (.int .i64 1) ∧ w'.cell? ⟨g13, 1, none⟩ = some (.int .i64 0) ∧ w'.cell? ⟨g13, 2, none⟩ = some (.int .i64 1000) ∧ w'.cell? ⟨g13, 3, none⟩ = some (.int .u32 5) ∧ w'.cell? ⟨g14, 0, none⟩ = some (.int .i64 lo) ∧ w'.cell? ⟨g14, 1, none⟩ = some (.int .i64 hi) ∧ Hid (Below w0.heap.size w0 w')
theorem keep14_of {w0 w' : World} {g8 g13 g14 : Nat} {n lo hi : Int} (h8 : Blk w0 g8 (reqL n) 46) (h13 : Blk w0 g13 rootL 50) (h14 : Blk w0 g14 (ivL lo hi) 33) (hb : Below w0.heap.size w0 w') : Keep14 w0 w' g8 g13 g14 n lo hi :=
  ⟨(h8.below hb).cell 0, (h8.below hb).cell 1, (h8.below hb).cell 2, (h8.below hb).cell 3, (h8.below hb).cell 4, (h8.below hb).cell 5, (h8.below hb).cell 6, (h8.below hb).cell 7, (h8.below hb).cell 8, (h8.below hb).cell 9, (h8.below hb).cell 10, (h8.below hb).cell 11, (h8.below hb).cell 12, (h13.below hb).cell 0, (h13.below hb).cell 1, (h13.below hb).cell 2, (h13.below hb).cell 3, (h14.below hb).cell 0, (h14.below hb).cell 1, hb⟩
/-- What holds at each step of the region of the distances. -/
abbrev Keep28 (w0 w' : World) (g26 g13 g25 : Nat) (o dl fin jp : Int) : Prop := w'.cell? ⟨g26, 0, none⟩ = some (.int .i64 2) ∧ w'.cell? ⟨g26, 1, none⟩ = some (.int .i64 dl) ∧ w'.cell? ⟨g26, 2, none⟩ = some (.int .i64 jp) ∧ w'.cell? ⟨g26, 3, none⟩ = some (.int .u32 7) ∧ w'.cell? ⟨g13, 0, none⟩ = some (.int .i64 1) ∧ w'.cell? ⟨g13, 1, none⟩ = some (.int .i64 0) ∧ w'.cell? ⟨g13, 2, none⟩ = some (.int .i64 1000) ∧ w'.cell? ⟨g13, 3, none⟩ = some (.int .u32 5) ∧ w'.cell? ⟨g25, 0, none⟩ = some (.int .i64 o) ∧ w'.cell? ⟨g25, 1, none⟩ = some (.int .i64 dl) ∧ w'.cell? ⟨g25, 2, none⟩ = some (.int .i64 1) ∧ w'.cell? ⟨g25, 3, none⟩ = some (.int .i64 fin) ∧ Hid (Below w0.heap.size w0 w')
theorem keep28_of {w0 w' : World} {g26 g13 g25 : Nat} {o dl fin jp : Int} (h26 : Blk w0 g26 (rtL dl jp) 50) (h13 : Blk w0 g13 rootL 50) (h25 : Blk w0 g25 (smpL o dl fin) 67) (hb : Below w0.heap.size w0 w') : Keep28 w0 w' g26 g13 g25 o dl fin jp :=
  ⟨(h26.below hb).cell 0, (h26.below hb).cell 1, (h26.below hb).cell 2, (h26.below hb).cell 3, (h13.below hb).cell 0, (h13.below hb).cell 1, (h13.below hb).cell 2, (h13.below hb).cell 3, (h25.below hb).cell 0, (h25.below hb).cell 1, (h25.below hb).cell 2, (h25.below hb).cell 3, hb⟩
set_option maxHeartbeats 16000000 in
set_option maxRecDepth 100000 in
theorem tex_walk (w : World) (T1 d2 d3 d4 off n came left fin lo hi b1 s2 b2 s3 rec xmt q2 q3 o dl blo bhi jp dj ds x1 x2 : Int)
    (g1 : decide (T1 < 0) = false) (g1' : decide (35184372088832 < T1) = false) (g2 : decide (d2 < 0) = false) (g2' : decide (1099511627776 < d2) = false) (g3 : decide (d3 < 0) = false) (g3' : decide (1099511627776 < d3) = false) (g4 : decide (d4 < 0) = false) (g4' : decide (1099511627776 < d4) = false)
    (g5 : decide (off < -35184372088832) = false) (g5' : decide (35184372088832 < off) = false) (g6 : (n == 0) = false)
    (a1 : IntKind.i64.wrap (T1 + d2) = came) (a2 : IntKind.i64.wrap (came + d3) = left) (a3 : IntKind.i64.wrap (left + d4) = fin) (a4 : IntKind.i64.wrap (left - 10) = lo) (a5 : IntKind.i64.wrap (left + 20) = hi)
    (a6 : IntKind.i64.wrap (3900000000000000000 + came) = b1) (a7 : IntKind.i64.wrap (b1 + off) = s2) (a8 : IntKind.i64.wrap (3900000000000000000 + left) = b2) (a9 : IntKind.i64.wrap (b2 + off) = s3)
    (a10 : IntKind.i64.wrap (came + off) = q2) (a11 : IntKind.i64.wrap (left + off) = q3)
    (e1 : decide (off < blo) = false) (e2 : decide (bhi < off) = false) (e3 : IntKind.i64.wrap (1000 + ds) = x1) (e4 : IntKind.i64.wrap (x1 - 1) = x2) (e5 : decide (x2 ≤ dj) = true)
    (HSND : Hid (∀ W g, Hid (Asc W g 4 0 0 false 0) → Calls Try.prog 12 #[.pointer (some ⟨g, 0, none⟩), .int .i64 T1, .int .u64 n] W (SendPost W g 4 n T1)))
    (HPRI : Hid (∀ W, Calls Try.prog 13 #[.int .i64 1000, .int .u32 5] W fun e w' => e = .returned (.tuple #[.agg #[.int .i64 1, .int .i64 0, .int .i64 1000, .int .u32 5], .int .i64 0]) ∧ Below W.heap.size W w'))
    (HOF2 : Hid (∀ W, Calls Try.prog 15 #[.int .i64 s2] W fun e w' => e = .returned (.int .u64 rec) ∧ Drawn0 W w'))
    (HOF3 : Hid (∀ W, Calls Try.prog 15 #[.int .i64 s3] W fun e w' => e = .returned (.int .u64 xmt) ∧ Drawn0 W w'))
    (HRPL : Hid (∀ W, Calls Try.prog 14 #[.agg #[.int .i64 0, .int .i64 4, .int .i64 3, .int .i64 0, .int .i64 0, .int .i64 0, .int .u32 0, .int .u32 0, .int .u32 0, .int .u64 0, .int .u64 0, .int .u64 0, .int .u64 n], .int .u64 rec, .int .u64 xmt, .agg #[.int .i64 1, .int .i64 0, .int .i64 1000, .int .u32 5], .agg #[.int .i64 lo, .int .i64 hi]] W (RplPost W n rec xmt lo hi)))
    (HDEC : Hid (ntpmsg_Decode.f (repB n rec xmt lo hi) = some (0, 4, 4, 1, 0, -20, 0, 1, 5, 0, n, rec, xmt, encE (ivF lo hi), 0))) (HCHK : Hid (chkV lo hi))
    (HREC : Hid (∀ W g, Hid (Asc W g 4 n T1 true 0) → Calls Try.prog 19 #[.pointer (some ⟨g, 0, none⟩), .agg #[.int .i64 0, .int .i64 4, .int .i64 4, .int .i64 1, .int .i64 0, .int .i64 (-20), .int .u32 0, .int .u32 1, .int .u32 5, .int .u64 0, .int .u64 n, .int .u64 rec, .int .u64 xmt], .int .i64 fin] W (RecPost W g T1 q2 q3 fin)))
    (HSMP : Hid (∀ W, Calls Try.prog 20 #[.agg #[.int .i64 T1, .int .i64 q2, .int .i64 q3, .int .i64 fin], .int .i64 1, .int .i64 0] W (SmpPost W o dl 1 fin)))
    (HBND : Hid (∀ W, Calls Try.prog 21 #[.agg #[.int .i64 o, .int .i64 dl, .int .i64 1, .int .i64 fin]] W fun e w' => e = .returned (.agg #[.int .i64 blo, .int .i64 bhi]) ∧ Below W.heap.size W w'))
    (HJOI : Hid (∀ W, Calls Try.prog 22 #[.agg #[.int .i64 0, .int .i64 4, .int .i64 4, .int .i64 1, .int .i64 0, .int .i64 (-20), .int .u32 0, .int .u32 1, .int .u32 5, .int .u64 0, .int .u64 n, .int .u64 rec, .int .u64 xmt], .agg #[.int .i64 o, .int .i64 dl, .int .i64 1, .int .i64 fin], .int .u32 7] W fun e w' => e = .returned (.tuple #[.agg #[.int .i64 2, .int .i64 dl, .int .i64 jp, .int .u32 7], .int .i64 0]) ∧ Below W.heap.size W w'))
    (HDJ : Hid (∀ W, Calls Try.prog 23 #[.agg #[.int .i64 2, .int .i64 dl, .int .i64 jp, .int .u32 7]] W fun e w' => e = .returned (.int .i64 dj) ∧ Below W.heap.size W w'))
    (HDR : Hid (∀ W, Calls Try.prog 23 #[.agg #[.int .i64 1, .int .i64 0, .int .i64 1000, .int .u32 5]] W fun e w' => e = .returned (.int .i64 1000) ∧ Below W.heap.size W w'))
    (HDS : Hid (∀ W, Calls Try.prog 24 #[.agg #[.int .i64 o, .int .i64 dl, .int .i64 1, .int .i64 fin]] W fun e w' => e = .returned (.int .i64 ds) ∧ Below W.heap.size W w')) :
    Calls Try.prog 4 #[.agg #[.int .i64 T1, .int .i64 d2, .int .i64 d3, .int .i64 d4], .int .i64 off, .int .u64 n] w fun e w' => e = .returned (.bool true) ∧ Below w.heap.size w w' := by
  go_enter Try.func4, Try.ntmps4
  go_upto_region 4 with (first
    | ((with_reducible refine gate_dst (N := 3) rfl ?_); refine box_event ?hg (N := 3) ?hd (cs := (quadL T1 d2 d3 d4).toArray) (t := 40) ?hr ?_; (case hd => rfl); (case hg => rfl); (case hr => first | (go_simp; done) | (go_simp; rfl)); intro g3 hq w1 hbox hb1; have hbl : Blk w1 g3 (quadL T1 d2 d3 d4) 40 := hbox; obtain ⟨c0, c1, c2, c3, -⟩ := blk_cells4 hbl; have HQ := Lib.hid hbl; have HB := Lib.hid hb1; have HG3 : Hid (w.heap.size ≤ g3) := (Nat.le_of_eq hq.symm); clear hq hbox hb1 hbl)
    | (go_at_call 11; refine (assoc_new _).mono ?_; rintro e w2 ⟨g, rfl, ha, hg, hb⟩; have hq2 := HQ.out.below hb; have HS : Hid (TS w w2 g (ascCs 4 0 0 false 0).toList 89 [(g3, quadL T1 d2 d3 d4, 40)]) := ⟨ha, (fun x hx => by rw [List.mem_singleton] at hx; subst hx; have := lt_of_blk HQ.out; show g3 ≠ g; omega), (fun x hx => by rw [List.mem_singleton] at hx; subst hx; exact hq2), below_step HB.out hb, Nat.le_trans HB.out.size hg, (fun x hx => by rw [List.mem_singleton] at hx; subst hx; exact HG3.out)⟩; clear HQ HB c0 c1 c2 c3 ha hg hb; obtain ⟨c0, c1, c2, c3, -⟩ := blk_cells4 hq2; clear hq2))
  go_upto_region 5 with (first
    | (go_at_call 12; refine (HSND.out _ g HS.out.one).mono ?_; rintro e w3 ⟨rfl, ha, hu⟩; have hs : TS w w3 g (ascCs 4 n T1 true 0).toList 89 _ := HS.out.upd hu ha; clear HS c0 c1 c2 c3 ha hu; have HS := Lib.hid hs; clear hs)
    | ((with_reducible refine gate_dst (N := 8) rfl ?_); refine box_event ?hg (N := 8) ?hd (cs := ntp0.toArray) (t := 46) ?hr ?_; (case hd => rfl); (case hg => rfl); (case hr => first | (go_simp; done) | (go_simp; rfl)); intro g8 hq w4 hbox hb1; have hbl : Blk w4 g8 ntp0 46 := hbox; obtain ⟨k0, k1, k2, k3, k4, k5, k6, k7, k8, k9, k10, k11, k12, f0, f1, f2, f3, f4, f5, f6, f7, f8, f9, f10, f11, f12⟩ := blk_cells13 hbl; have HW := Lib.hid hbl; have HL : Hid (w3.heap.size ≤ g8) := (Nat.le_of_eq hq.symm); have HV := Lib.hid hb1; clear hbl hq hbox hb1))
  refine here4a (fun w' => Hid (TS w w' g (ascCs 4 n T1 true 0).toList 89 [(g8, reqL n, 46), (g3, quadL T1 d2 d3 d4, 40)])) ?hst ?_
  case hst => exact HS.out.cons (below_put13 HV.out HL.out) (Blk.put13 HW.out) HL.out
  clear HS HW HL HV k0 k1 k2 k3 k4 k5 k6 k7 k8 k9 k10 k11 k12 f0 f1 f2 f3 f4 f5 f6 f7 f8 f9 f10 f11 f12
  intro w5 HS
  obtain ⟨c0, c1, c2, c3, -⟩ := blk_cells4 (HS.out.get 1 rfl)
  go_upto_region 11 with (first
    | (go_at_call 13; refine (HPRI.out _).mono ?_; rintro e w6 ⟨rfl, hb⟩; have hs := HS.out.below hb; clear HS c0 c1 c2 c3 hb; have HS := Lib.hid hs; clear hs)
    | ((with_reducible refine gate_dst (N := 13) rfl ?_); refine box_event ?hg (N := 13) ?hd (cs := root0.toArray) (t := 50) ?hr ?_; (case hd => rfl); (case hg => rfl); (case hr => first | (go_simp; done) | (go_simp; rfl)); intro g13 hq w7 hbox hb1; have hbl : Blk w7 g13 root0 50 := hbox; obtain ⟨k0, k1, k2, k3, f0, f1, f2, f3⟩ := blk_cells4 hbl; have HW := Lib.hid hbl; have HL : Hid (w6.heap.size ≤ g13) := (Nat.le_of_eq hq.symm); have HV := Lib.hid hb1; clear hbl hq hbox hb1))
  refine here4a (fun w' => Hid (TS w w' g (ascCs 4 n T1 true 0).toList 89 [(g13, rootL, 50), (g8, reqL n, 46), (g3, quadL T1 d2 d3 d4, 40)])) ?hst ?_
  case hst => exact HS.out.cons (below_put4 HV.out HL.out) (Blk.put4 HW.out) HL.out
  clear HS HW HL HV k0 k1 k2 k3 f0 f1 f2 f3
  intro w8 HS
  go_upto_region 14 with (first
    | ((with_reducible refine gate_dst (N := 14) rfl ?_); refine box_event ?hg (N := 14) ?hd (cs := iv0.toArray) (t := 33) ?hr ?_; (case hd => rfl); (case hg => rfl); (case hr => first | (go_simp; done) | (go_simp; rfl)); intro g14 hq w9 hbox hb1; have hbl : Blk w9 g14 iv0 33 := hbox; obtain ⟨k0, k1, f0, f1⟩ := blk_cells2 hbl; have HW := Lib.hid hbl; have HL : Hid (w8.heap.size ≤ g14) := (Nat.le_of_eq hq.symm); have HV := Lib.hid hb1; clear hbl hq hbox hb1))
  refine here4a (fun w' => Hid (TS w w' g (ascCs 4 n T1 true 0).toList 89 [(g14, ivL lo hi, 33), (g13, rootL, 50), (g8, reqL n, 46), (g3, quadL T1 d2 d3 d4, 40)])) ?hst ?_
  case hst => exact HS.out.cons (below_put2 HV.out HL.out) (Blk.put2 HW.out) HL.out
  clear HS HW HL HV k0 k1 f0 f1
  intro w10 HS
  go_cut [15, 16] (fun v15 v16 wc => ∃ A c, v15 = .slice A 68 c ∧ v16 = .bool true ∧ Hid (68 ≤ c) ∧ Hid (Kd.C (Kd.int .u8) wc A 68 (repB n rec xmt lo hi)) ∧ Hid (TS w wc g (ascCs 4 n T1 true 0).toList 89 [(g14, ivL lo hi, 33), (g13, rootL, 50), (g8, reqL n, 46), (g3, quadL T1 d2 d3 d4, 40)]))
  case first =>
    go_region_held3 (fun w' : World => w'.cell? ⟨g8, 0, none⟩ = some (.int .i64 0) ∧ w'.cell? ⟨g8, 1, none⟩ = some (.int .i64 4) ∧ w'.cell? ⟨g8, 2, none⟩ = some (.int .i64 3) ∧ w'.cell? ⟨g8, 3, none⟩ = some (.int .i64 0) ∧ w'.cell? ⟨g8, 4, none⟩ = some (.int .i64 0) ∧ w'.cell? ⟨g8, 5, none⟩ = some (.int .i64 0) ∧ w'.cell? ⟨g8, 6, none⟩ = some (.int .u32 0) ∧ w'.cell? ⟨g8, 7, none⟩ = some (.int .u32 0) ∧ w'.cell? ⟨g8, 8, none⟩ = some (.int .u32 0) ∧ w'.cell? ⟨g8, 9, none⟩ = some (.int .u64 0) ∧ w'.cell? ⟨g8, 10, none⟩ = some (.int .u64 0) ∧ w'.cell? ⟨g8, 11, none⟩ = some (.int .u64 0) ∧ w'.cell? ⟨g8, 12, none⟩ = some (.int .u64 n) ∧ w'.cell? ⟨g13, 0, none⟩ = some (.int .i64 1) ∧ w'.cell? ⟨g13, 1, none⟩ = some (.int .i64 0) ∧ w'.cell? ⟨g13, 2, none⟩ = some (.int .i64 1000) ∧ w'.cell? ⟨g13, 3, none⟩ = some (.int .u32 5) ∧ w'.cell? ⟨g14, 0, none⟩ = some (.int .i64 lo) ∧ w'.cell? ⟨g14, 1, none⟩ = some (.int .i64 hi) ∧ Hid (Below w10.heap.size w10 w')) ((refine keep14_of (HS.out.get 2 rfl) (HS.out.get 1 rfl) (HS.out.get 0 rfl) ?_; first | exact HB6.out | (repeat (first | exact Below.refl _ _ | (with_reducible first | apply pw_below_drewN | apply below_drew1))))) (first
      | (go_at_call_of 15 s2; refine (HOF2.out _).mono ?_; rintro e w5 ⟨rfl, nd, rfl⟩; (first | dsimp only))
      | (go_at_call_of 15 s3; refine (HOF3.out _).mono ?_; rintro e w5 ⟨rfl, nd, rfl⟩; (first | dsimp only))
      | (go_at_call 14; refine (HRPL.out _).mono ?_; rintro e w6 ⟨A, c, rfl, h68, hC, hb⟩; have HB6 := Lib.hid (below_step (w := w10) (by repeat (first | exact Below.refl _ _ | (with_reducible first | apply pw_below_drewN | apply below_drew1))) hb); have HC := Lib.hid hC; have H68 := Lib.hid h68; clear h68 hC hb; (first | dsimp only)))
    all_goals
      go_wp2
      go_meet
      case rel => exact ⟨A, c, rfl, rfl, H68, HC, HS.out.below HB6.out⟩
  case rest =>
    clear HS
    obtain ⟨A, c, rfl, rfl, H68, HC, HS⟩ := hcut
    have HEL : Hid ((encE (ivF lo hi)).length = 20) := by show (encE (ivF lo hi)).length = 20; rw [encE_len, show (ivF lo hi).f1.length = 16 from ivB_len lo hi]
    go_upto_region 16 with (first
      | (go_at_call 16; refine (dec_call (repB n rec xmt lo hi) (encE (ivF lo hi)) 0 4 4 1 0 (-20) 0 1 5 0 n rec xmt 68 20 c A _ (repB_len n rec xmt lo hi) HEL.out HC.out H68.out HDEC.out).mono ?_; rintro e w11 ⟨B, k, rfl, hk, hB, hb⟩; have hs := HS.out.below hb; clear HS HC H68 hb; have HS := Lib.hid hs; have HKB := Lib.hid hk; have HCB := Lib.hid hB; clear hs hk hB)
      | ((with_reducible refine gate_dst (N := 17) rfl ?_); refine box_event ?hg (N := 17) ?hd (cs := ntp0.toArray) (t := 46) ?hr ?_; (case hd => rfl); (case hg => rfl); (case hr => first | (go_simp; done) | (go_simp; rfl)); intro g17 hq w12 hbox hb1; have hbl : Blk w12 g17 ntp0 46 := hbox; obtain ⟨k0, k1, k2, k3, k4, k5, k6, k7, k8, k9, k10, k11, k12, f0, f1, f2, f3, f4, f5, f6, f7, f8, f9, f10, f11, f12⟩ := blk_cells13 hbl; have HW := Lib.hid hbl; have HL : Hid (w11.heap.size ≤ g17) := (Nat.le_of_eq hq.symm); have HV := Lib.hid hb1; clear hbl hq hbox hb1))
    refine here4a (fun w' => Hid (TS w w' g (ascCs 4 n T1 true 0).toList 89 [(g17, repL n rec xmt, 46), (g14, ivL lo hi, 33), (g13, rootL, 50), (g8, reqL n, 46), (g3, quadL T1 d2 d3 d4, 40)]) ∧ Hid (Kd.C (Kd.int .u8) w' B 20 (encE (ivF lo hi)))) ?hst ?_
    case hst => exact ⟨HS.out.cons (below_put13 HV.out HL.out) (Blk.put13 HW.out) HL.out, Kd.C_below HCB.out (below_put13 HV.out HL.out)⟩
    clear HS HW HL HV HCB k0 k1 k2 k3 k4 k5 k6 k7 k8 k9 k10 k11 k12 f0 f1 f2 f3 f4 f5 f6 f7 f8 f9 f10 f11 f12
    rintro w13 ⟨HS, HCB⟩
    go_upto_region 18 with (first
      | (go_at_call 17; refine (par_call (ivF lo hi) 20 k B _ (ivF_ok lo hi) HEL.out HCB.out HKB.out).mono ?_; rintro e w14 ⟨B2, k2, rfl, hk, hB, hb⟩; have hs := HS.out.below hb; clear HS HCB HKB hb; have HS := Lib.hid hs; have HKF := Lib.hid hk; have HCF := Lib.hid hB; clear hs hk hB)
      | (go_at_call 18; refine (iv_call1 lo hi k2 B2 _ HCHK.out HCF.out HKF.out).mono ?_; rintro e w15 ⟨rfl, hb⟩; have hs := HS.out.below hb; clear HS HCF HKF hb; have HS := Lib.hid hs; clear hs)
      | ((with_reducible refine gate_dst (N := 22) rfl ?_); refine box_event ?hg (N := 22) ?hd (cs := iv0.toArray) (t := 33) ?hr ?_; (case hd => rfl); (case hg => rfl); (case hr => first | (go_simp; done) | (go_simp; rfl)); intro g22 hq w16 hbox hb1; have hbl : Blk w16 g22 iv0 33 := hbox; obtain ⟨k0, k1, f0, f1⟩ := blk_cells2 hbl; have HW := Lib.hid hbl; have HL : Hid (w15.heap.size ≤ g22) := (Nat.le_of_eq hq.symm); have HV := Lib.hid hb1; clear hbl hq hbox hb1))
    refine here4a (fun w' => Hid (TS w w' g (ascCs 4 n T1 true 0).toList 89 [(g22, ivL lo hi, 33), (g17, repL n rec xmt, 46), (g14, ivL lo hi, 33), (g13, rootL, 50), (g8, reqL n, 46), (g3, quadL T1 d2 d3 d4, 40)])) ?hst ?_
    case hst => exact HS.out.cons (below_put2 HV.out HL.out) (Blk.put2 HW.out) HL.out
    clear HS HW HL HV k0 k1 f0 f1
    intro w17 HS
    obtain ⟨j0, j1, -⟩ := blk_cells2 (HS.out.get 0 rfl)
    obtain ⟨i0, i1, -⟩ := blk_cells2 (HS.out.get 2 rfl)
    go_upto_region 20 with (fail)
    clear j0 j1 i0 i1
    obtain ⟨h0, h1, h2, h3, h4, h5, h6, h7, h8, h9, h10, h11, h12, -⟩ := blk_cells13 (HS.out.get 1 rfl)
    go_upto_region 21 with (first
      | (go_at_call 19; refine (HREC.out _ g HS.out.one).mono ?_; rintro e w18 ⟨rfl, hu⟩; have hs : TS w w18 g14 (ivL lo hi) 33 [(g17, repL n rec xmt, 46), (g13, rootL, 50), (g3, quadL T1 d2 d3 d4, 40)] := HS.out.shift hu 2 rfl (by simp); clear HS hu h0 h1 h2 h3 h4 h5 h6 h7 h8 h9 h10 h11 h12; have HS := Lib.hid hs; clear hs)
      | ((with_reducible refine gate_dst (N := 24) rfl ?_); refine box_event ?hg (N := 24) ?hd (cs := hrd0.toArray) (t := 64) ?hr ?_; (case hd => rfl); (case hg => rfl); (case hr => first | (go_simp; done) | (go_simp; rfl)); intro g24 hq w19 hbox hb1; have hbl : Blk w19 g24 hrd0 64 := hbox; obtain ⟨k0, k1, k2, k3, k4, k5, f0, f1, f2, f3, f4, f5⟩ := blk_cells6 hbl; have HW := Lib.hid hbl; have HL : Hid (w18.heap.size ≤ g24) := (Nat.le_of_eq hq.symm); have HV := Lib.hid hb1; clear hbl hq hbox hb1))
    refine here4a (fun w' => Hid (TS w w' g14 (ivL lo hi) 33 [(g24, hrdL T1 q2 q3 fin, 64), (g17, repL n rec xmt, 46), (g13, rootL, 50), (g3, quadL T1 d2 d3 d4, 40)])) ?hst ?_
    case hst => exact HS.out.cons (below_put6 HV.out HL.out) (Blk.put6 HW.out) HL.out
    clear HS HW HL HV k0 k1 k2 k3 k4 k5 f0 f1 f2 f3 f4 f5
    intro w20 HS
    obtain ⟨k0, k1, k2, k3, k4, k5, -⟩ := blk_cells6 (HS.out.get 0 rfl)
    obtain ⟨c0, -⟩ := blk_cells4 (HS.out.get 3 rfl)
    go_upto_region 23 with (fail)
    clear c0
    go_upto_region 24 with (first
      | (go_at_call 20; refine (HSMP.out _).mono ?_; rintro e w21 ⟨rfl, hb⟩; have hs := HS.out.below hb; clear HS hb k0 k1 k2 k3 k4 k5; have HS := Lib.hid hs; clear hs)
      | ((with_reducible refine gate_dst (N := 25) rfl ?_); refine box_event ?hg (N := 25) ?hd (cs := smp0.toArray) (t := 67) ?hr ?_; (case hd => rfl); (case hg => rfl); (case hr => first | (go_simp; done) | (go_simp; rfl)); intro g25 hq w22 hbox hb1; have hbl : Blk w22 g25 smp0 67 := hbox; obtain ⟨k0, k1, k2, k3, f0, f1, f2, f3⟩ := blk_cells4 hbl; have HW := Lib.hid hbl; have HL : Hid (w21.heap.size ≤ g25) := (Nat.le_of_eq hq.symm); have HV := Lib.hid hb1; clear hbl hq hbox hb1))
    refine here4a (fun w' => Hid (TS w w' g14 (ivL lo hi) 33 [(g25, smpL o dl fin, 67), (g17, repL n rec xmt, 46), (g13, rootL, 50)])) ?hst ?_
    case hst => exact (HS.out.sub (by simp)).cons (below_put4 HV.out HL.out) (Blk.put4 HW.out) HL.out
    clear HS HW HL HV k0 k1 k2 k3 f0 f1 f2 f3
    intro w23 HS
    obtain ⟨m0, m1, m2, m3, -⟩ := blk_cells4 (HS.out.get 0 rfl)
    go_upto_region 25 with (go_at_call 21; refine (HBND.out _).mono ?_; rintro e w24 ⟨rfl, hb⟩; have hs := HS.out.below hb; clear HS hb m0 m1 m2 m3; obtain ⟨i0, i1, f0, f1⟩ := blk_cells2 hs.one; have HS := Lib.hid hs; clear hs)
    refine here4a (fun w' => Hid (TS w w' g14 (ivL blo bhi) 33 [(g25, smpL o dl fin, 67), (g17, repL n rec xmt, 46), (g13, rootL, 50)])) ?hst ?_
    case hst => exact HS.out.upd ((Upd.set _ g14 0 _).trans (Upd.set _ g14 1 _)) (Blk.put2 HS.out.one)
    clear HS i0 i1 f0 f1
    intro w25 HS
    obtain ⟨i0, i1, -⟩ := blk_cells2 HS.out.one
    go_upto_region 27 with (fail)
    clear i0 i1
    obtain ⟨m0, m1, m2, m3, -⟩ := blk_cells4 (HS.out.get 0 rfl)
    obtain ⟨h0, h1, h2, h3, h4, h5, h6, h7, h8, h9, h10, h11, h12, -⟩ := blk_cells13 (HS.out.get 1 rfl)
    go_upto_region 28 with (first
      | (go_at_call 22; refine (HJOI.out _).mono ?_; rintro e w26 ⟨rfl, hb⟩; have hs := HS.out.below hb; clear HS hb m0 m1 m2 m3 h0 h1 h2 h3 h4 h5 h6 h7 h8 h9 h10 h11 h12; have HS := Lib.hid hs; clear hs)
      | ((with_reducible refine gate_dst (N := 26) rfl ?_); refine box_event ?hg (N := 26) ?hd (cs := root0.toArray) (t := 50) ?hr ?_; (case hd => rfl); (case hg => rfl); (case hr => first | (go_simp; done) | (go_simp; rfl)); intro g26 hq w27 hbox hb1; have hbl : Blk w27 g26 root0 50 := hbox; obtain ⟨k0, k1, k2, k3, f0, f1, f2, f3⟩ := blk_cells4 hbl; have HW := Lib.hid hbl; have HL : Hid (w26.heap.size ≤ g26) := (Nat.le_of_eq hq.symm); have HV := Lib.hid hb1; clear hbl hq hbox hb1))
    refine here4a (fun w' => Hid (TS w w' g14 (ivL blo bhi) 33 [(g26, rtL dl jp, 50), (g25, smpL o dl fin, 67), (g13, rootL, 50)])) ?hst ?_
    case hst => exact (HS.out.sub (by simp)).cons (below_put4 HV.out HL.out) (Blk.put4 HW.out) HL.out
    clear HS HW HL HV k0 k1 k2 k3 f0 f1 f2 f3
    intro w28 HS
    go_region_held3 (fun w' : World => w'.cell? ⟨g26, 0, none⟩ = some (.int .i64 2) ∧ w'.cell? ⟨g26, 1, none⟩ = some (.int .i64 dl) ∧ w'.cell? ⟨g26, 2, none⟩ = some (.int .i64 jp) ∧ w'.cell? ⟨g26, 3, none⟩ = some (.int .u32 7) ∧ w'.cell? ⟨g13, 0, none⟩ = some (.int .i64 1) ∧ w'.cell? ⟨g13, 1, none⟩ = some (.int .i64 0) ∧ w'.cell? ⟨g13, 2, none⟩ = some (.int .i64 1000) ∧ w'.cell? ⟨g13, 3, none⟩ = some (.int .u32 5) ∧ w'.cell? ⟨g25, 0, none⟩ = some (.int .i64 o) ∧ w'.cell? ⟨g25, 1, none⟩ = some (.int .i64 dl) ∧ w'.cell? ⟨g25, 2, none⟩ = some (.int .i64 1) ∧ w'.cell? ⟨g25, 3, none⟩ = some (.int .i64 fin) ∧ Hid (Below w28.heap.size w28 w')) ((refine keep28_of (HS.out.get 0 rfl) (HS.out.get 2 rfl) (HS.out.get 1 rfl) ?_; first | exact HB31.out | exact HB30.out | exact HB29.out | exact below_drew1 (Below.refl _ _))) (first
      | (go_at_call_of 23 jp; refine (HDJ.out _).mono ?_; rintro e w29 ⟨rfl, hb⟩; have HB29 := Lib.hid (below_step (w := w28) (by repeat (first | exact Below.refl _ _ | (with_reducible first | apply pw_below_drewN | apply below_drew1))) hb); clear hb; (first | dsimp only))
      | (go_at_call 23; refine (HDR.out _).mono ?_; rintro e w30 ⟨rfl, hb⟩; have HB30 := Lib.hid (below_step HB29.out hb); clear hb; (first | dsimp only))
      | (go_at_call 24; refine (HDS.out _).mono ?_; rintro e w31 ⟨rfl, hb⟩; have HB31 := Lib.hid (below_step HB30.out hb); clear hb; (first | dsimp only)))
    all_goals
      go_wp2
      go_ret
      exact ⟨rfl, below_step HS.out.low HB31.out⟩
end Go.Proofs.Ytjbjkjlfikfeeaa.P
