/- Floors of weighted sums; the root; the distance. -/
import Derived.Test.YtgbajigcmadofaaPureC26b
namespace Go.Proofs.Ytgbajigcmadofaa.P
open Go.RowKit Go.Proofs.YtgbajigcmadofaaW.PrintWords Go.Proofs.YtgbajigcmadofaaW.PrintLast Go.Proofs.YtgbajigcmadofaaW.PrintMore

/-! ### the root -/
theorem or_small (x y : Int) (hx : 0 ≤ x) (hx2 : x < 4294967296) (hy : 0 ≤ y) (hy2 : y < 4294967296) : 0 ≤ Go.bits .or .u64 x y ∧ Go.bits .or .u64 x y < 4294967296 := by
  obtain ⟨a, rfl⟩ := Int.eq_ofNat_of_zero_le hx
  obtain ⟨b, rfl⟩ := Int.eq_ofNat_of_zero_le hy
  have e : Go.bits .or .u64 (a : Int) (b : Int) = IntKind.u64.wrap ((BitVec.ofInt 64 (a : Int) ||| BitVec.ofInt 64 (b : Int)).toNat : Int) := rfl
  have e2 : ((BitVec.ofInt 64 (a : Int)).toNat : Nat) = a := by rw [BitVec.toNat_ofInt]; omega
  have e3 : ((BitVec.ofInt 64 (b : Int)).toNat : Nat) = b := by rw [BitVec.toNat_ofInt]; omega
  have h : a ||| b < 2 ^ 32 := Nat.or_lt_two_pow (by omega) (by omega)
  rw [e, BitVec.toNat_or, e2, e3, IntKind.wrap_u64]
  omega
theorem sq_small (r : Int) (h0 : 0 ≤ r) (h1 : r < 4294967296) : 0 ≤ r * r ∧ r * r < 18446744073709551616 := by
  refine ⟨Int.mul_nonneg h0 h0, ?_⟩
  have h2 : r * r ≤ 4294967295 * r := Int.mul_le_mul_of_nonneg_right (by omega) h0
  omega
theorem sqrt_loop (n : Int) (hn : 0 ≤ n) (hn2 : n ≤ 9223372036854775807) : ∀ (d i k : Nat) (r : Int), i + d = 32 → d < k → 0 ≤ r → r < 4294967296 → r * r ≤ n →
    ∃ q, fixed_Sqrt.l0 k n r i = some (q, true) ∧ 0 ≤ q ∧ q < 4294967296 ∧ q * q ≤ n := by
  intro d
  induction d with
  | zero =>
    intro i k r hi hk h0 h1 h2
    obtain ⟨k, rfl⟩ : ∃ k', k = k' + 1 := ⟨k - 1, by omega⟩
    refine ⟨r, ?_, h0, h1, h2⟩
    rw [fixed_Sqrt.l0, if_neg (by omega)]
    have : wrap64 r = r := by unfold wrap64; omega
    rw [this]
  | succ d ih =>
    intro i k r hi hk h0 h1 h2
    obtain ⟨k, rfl⟩ : ∃ k', k = k' + 1 := ⟨k - 1, by omega⟩
    have e1 : wrap64 (31 - (i : Int)) = ((31 - i : Nat) : Int) := by unfold wrap64; omega
    have e2 : wrap64 ((i : Int) + 1) = ((i + 1 : Nat) : Int) := by unfold wrap64; omega
    have hs : 0 ≤ shl .u64 1 ((31 - i : Nat) : Int) ∧ shl .u64 1 ((31 - i : Nat) : Int) < 4294967296 := by
      unfold shl
      rw [Int.toNat_natCast, Nat.min_eq_left (by show 31 - i ≤ 64; omega), Int.one_mul, IntKind.wrap_u64]
      have : (2 : Nat) ^ (31 - i) ≤ 2 ^ 31 := Nat.pow_le_pow_right (by omega) (by omega)
      have h3 : ((2 ^ (31 - i) : Nat) : Int) ≤ ((2 ^ 31 : Nat) : Int) := by exact_mod_cast this
      have h4 : (0 : Int) ≤ ((2 ^ (31 - i) : Nat) : Int) := Int.natCast_nonneg _
      have h5 : ((2 : Int) ^ (31 - i)) = ((2 ^ (31 - i) : Nat) : Int) := by simp
      rw [h5]
      generalize ((2 ^ (31 - i) : Nat) : Int) = z at *
      have h6 : ((2 ^ 31 : Nat) : Int) = 2147483648 := rfl
      rw [h6] at h3
      omega
    rw [fixed_Sqrt.l0, if_pos (by omega), e1, e2, if_pos (by omega)]
    have ho := or_small r _ h0 h1 hs.1 hs.2
    generalize Go.bits .or .u64 r (shl .u64 1 ((31 - i : Nat) : Int)) = z at ho ⊢
    have hz := sq_small z ho.1 ho.2
    have ez : IntKind.u64.wrap (z * z) = z * z := by rw [IntKind.wrap_u64]; exact Int.emod_eq_of_lt hz.1 hz.2
    have en : IntKind.u64.wrap n = n := by rw [IntKind.wrap_u64]; omega
    rw [ez, en]
    by_cases hc : z * z ≤ n
    · rw [if_pos hc]
      exact ih (i + 1) k z (by omega) (by omega) ho.1 ho.2 hc
    · rw [if_neg hc]
      exact ih (i + 1) k r (by omega) (by omega) h0 h1 h2
theorem sqrt_ok (n : Int) (hn : 0 ≤ n) (hn2 : n ≤ 9223372036854775807) (k : Nat) (hk : 40 < k) : ∃ q, fixed_Sqrt.f k n = some (q, true) ∧ 0 ≤ q ∧ q * q ≤ n := by
  obtain ⟨q, h1, h2, _, h3⟩ := sqrt_loop n hn hn2 32 0 k 0 (by omega) (by omega) (by omega) (by omega) (by omega)
  refine ⟨q, ?_, h2, h3⟩
  unfold fixed_Sqrt.f
  rw [if_neg (by omega)]
  exact h1

/-! ### sums -/
theorem wacc_sum (W : List Int) : ∀ a : Int, 0 ≤ a → (∀ x ∈ W, 1 ≤ x ∧ x ≤ 1073741824) → a + W.length * 1073741824 ≤ 4611686018427387904 → wacc W a = a + W.sum := by
  induction W with
  | nil => intro a _ _ _; simp [wacc]
  | cons x t ih =>
    intro a ha hx hb
    have h1 := hx x (List.mem_cons_self ..)
    rw [List.length_cons] at hb
    have e : wrap64 (a + x) = a + x := by unfold wrap64; omega
    rw [wacc, e, ih (a + x) (by omega) (fun y hy => hx y (List.mem_cons_of_mem _ hy)) (by omega), List.sum_cons]
    omega
theorem sum_ge (W : List Int) (h : ∀ x ∈ W, 1 ≤ x ∧ x ≤ 1073741824) : (W.length : Int) ≤ W.sum ∧ W.sum ≤ W.length * 1073741824 ∧ ∀ x ∈ W, x ≤ W.sum := by
  induction W with
  | nil => simp
  | cons x t ih =>
    obtain ⟨h1, h2, h3⟩ := ih (fun y hy => h y (List.mem_cons_of_mem _ hy))
    have hx := h x (List.mem_cons_self ..)
    rw [List.sum_cons, List.length_cons]
    refine ⟨by omega, by omega, fun y hy => ?_⟩
    rcases List.mem_cons.1 hy with rfl | hy
    · omega
    · have := h3 y hy; omega
/-- The sum of the floors. -/
def qs (val : S34 → Int) (all : Int) : List S34 → Int
  | [] => 0
  | c :: t => wt c * val c / all + qs val all t
def sw : List S34 → Int
  | [] => 0
  | c :: t => wt c + sw t
theorem sw_sum (l : List S34) : sw l = (l.map wt).sum := by
  induction l with
  | nil => rfl
  | cons c t ih => rw [sw, List.map_cons, List.sum_cons, ih]
theorem term_up (w v all H : Int) (h1 : 1 ≤ w) (h2 : w ≤ all) (hv : v ≤ H) (hH : 0 ≤ H) : w * v / all ≤ H := by
  have e1 : w * v ≤ w * H := Int.mul_le_mul_of_nonneg_left hv (by omega)
  have e2 : w * H ≤ all * H := Int.mul_le_mul_of_nonneg_right h2 hH
  have e3 : w * v / all ≤ all * H / all := Int.ediv_le_ediv (by omega) (Int.le_trans e1 e2)
  rwa [Int.mul_ediv_cancel_left _ (by omega)] at e3
theorem term_low (w v all L : Int) (h1 : 1 ≤ w) (h2 : w ≤ all) (hv : L ≤ v) (hL : L ≤ 0) : L ≤ w * v / all := by
  have e1 : w * L ≤ w * v := Int.mul_le_mul_of_nonneg_left hv (by omega)
  have e2 : all * L ≤ w * L := Int.mul_le_mul_of_nonpos_right h2 hL
  have e3 : all * L / all ≤ w * v / all := Int.ediv_le_ediv (by omega) (Int.le_trans e2 e1)
  rwa [Int.mul_ediv_cancel_left _ (by omega)] at e3
theorem md_val (w v all M : Int) (h1 : 1 ≤ w) (h2 : w ≤ all) (hv : -M ≤ v) (hv2 : v ≤ M) (hM : 0 ≤ M) (hM2 : M ≤ 4611686018427387904) : (B.mulDiv w v all).1 = w * v / all := by
  have u := term_up w v all M h1 h2 hv2 hM
  have l := term_low w v all (-M) h1 h2 hv (by omega)
  unfold B.mulDiv B.floorQ
  rw [if_neg (by omega), if_pos (by omega), B.fitI_yes (by omega) (by omega)]
/-- Terms of whatever sign, each small. -/
theorem vacc_small (val : S34 → Int) (all M : Int) (hM : 0 ≤ M) (hM2 : M ≤ 36028797018963968) (l : List S34) : ∀ a n : Int, l.length ≤ n → n ≤ 12 → -(12 - n) * M ≤ a → a ≤ (12 - n) * M →
    (∀ c ∈ l, 1 ≤ wt c ∧ wt c ≤ all ∧ -M ≤ val c ∧ val c ≤ M) → vacc val all l a = a + qs val all l := by
  induction l with
  | nil => intro a n _ _ _ _ _; simp [vacc, qs]
  | cons c t ih =>
    intro a n hn hn2 h1 h2 h
    obtain ⟨w1, w2, v1, v2⟩ := h c (List.mem_cons_self ..)
    have u := term_up _ _ all M w1 w2 v2 hM
    have lo := term_low _ _ all (-M) w1 w2 v1 (by omega)
    rw [List.length_cons] at hn
    rw [vacc, qs, md_val _ _ all M w1 w2 v1 v2 hM (by omega)]
    generalize wt c * val c / all = q at u lo ⊢
    have e4 : (12 - n) * M ≤ 12 * M := Int.mul_le_mul_of_nonneg_right (by omega) hM
    have e5 : -(12 - n) * M = -((12 - n) * M) := Int.neg_mul _ _
    have e : wrap64 (a + q) = a + q := by unfold wrap64; omega
    have e6 : (12 - (n - 1)) * M = (12 - n) * M + M := by rw [show 12 - (n - 1) = (12 - n) + 1 by omega, Int.add_mul, Int.one_mul]
    have e7 : -(12 - (n - 1)) * M = -((12 - n) * M + M) := by rw [Int.neg_mul, e6]
    rw [e, ih (a + q) (n - 1) (by omega) (by omega) (by omega) (by omega) (fun x hx => h x (List.mem_cons_of_mem _ hx))]
    omega
/-- Terms that are not below zero. -/
theorem vacc_pos (val : S34 → Int) (all H : Int) (hall : 0 < all) (hH : 0 ≤ H) (hH2 : H ≤ 2305843009213693952) (l : List S34) : ∀ a : Int, 0 ≤ a → all * a ≤ H * (all - sw l) →
    (∀ c ∈ l, 1 ≤ wt c ∧ wt c ≤ all ∧ 0 ≤ val c ∧ val c ≤ H) → 0 ≤ vacc val all l a ∧ all * vacc val all l a ≤ H * all := by
  induction l with
  | nil => intro a h0 h1 _; simp [vacc, sw] at h1 ⊢; exact ⟨h0, h1⟩
  | cons c t ih =>
    intro a h0 h1 h
    obtain ⟨w1, w2, v1, v2⟩ := h c (List.mem_cons_self ..)
    have u := term_up _ _ all H w1 w2 v2 hH
    have lo := term_low _ _ all 0 w1 w2 v1 (by omega)
    have hwv : wt c * val c ≤ wt c * H := Int.mul_le_mul_of_nonneg_left v2 (by omega)
    have hq : all * (wt c * val c / all) ≤ wt c * val c := Int.mul_ediv_self_le (by omega)
    rw [vacc, md_val _ _ all H w1 w2 (by omega) v2 hH (by omega)]
    have hsw : 0 ≤ sw t := by
      have : ∀ m : List S34, (∀ x ∈ m, 1 ≤ wt x) → 0 ≤ sw m := by
        intro m
        induction m with
        | nil => intro _; exact Int.le_refl _
        | cons x r ihr => intro hx; rw [sw]; have := hx x (List.mem_cons_self ..); have := ihr (fun y hy => hx y (List.mem_cons_of_mem _ hy)); omega
      exact this t (fun x hx => (h x (List.mem_cons_of_mem _ hx)).1)
    rw [sw] at h1
    generalize hQ : wt c * val c / all = q at *
    have e1 : H * (all - (wt c + sw t)) = H * (all - sw t) - H * wt c := by rw [← Int.mul_sub]; congr 1; omega
    have e2 : all * (a + q) = all * a + all * q := Int.mul_add ..
    have e3 : wt c * H = H * wt c := Int.mul_comm ..
    have h2 : all * (a + q) ≤ H * (all - sw t) := by omega
    have e4 : H * (all - sw t) ≤ H * all := Int.mul_le_mul_of_nonneg_left (by omega) hH
    have e5 : all * (a + q) ≤ all * H := by rw [Int.mul_comm all H]; omega
    have h3 : a + q ≤ H := Int.le_of_mul_le_mul_left e5 hall
    have e : wrap64 (a + q) = a + q := by unfold wrap64; omega
    rw [e]
    exact ih (a + q) (by omega) h2 (fun x hx => h x (List.mem_cons_of_mem _ hx))
/-- The sum of the floors lies between. -/
theorem qs_up (val : S34 → Int) (all H : Int) (hall : 0 < all) (l : List S34) (h : ∀ c ∈ l, 1 ≤ wt c ∧ val c ≤ H) : all * qs val all l ≤ H * sw l := by
  induction l with
  | nil => simp [qs, sw]
  | cons c t ih =>
    obtain ⟨w1, v2⟩ := h c (List.mem_cons_self ..)
    have ih' := ih (fun x hx => h x (List.mem_cons_of_mem _ hx))
    have hwv : wt c * val c ≤ wt c * H := Int.mul_le_mul_of_nonneg_left v2 (by omega)
    have hq : all * (wt c * val c / all) ≤ wt c * val c := Int.mul_ediv_self_le (by omega)
    rw [qs, sw, Int.mul_add, Int.mul_add, Int.mul_comm H (wt c)]
    omega
theorem qs_low (val : S34 → Int) (all L : Int) (hall : 0 < all) (l : List S34) (h : ∀ c ∈ l, 1 ≤ wt c ∧ L ≤ val c) : L * sw l - l.length * (all - 1) ≤ all * qs val all l := by
  induction l with
  | nil => simp [qs, sw]
  | cons c t ih =>
    obtain ⟨w1, v2⟩ := h c (List.mem_cons_self ..)
    have ih' := ih (fun x hx => h x (List.mem_cons_of_mem _ hx))
    have hwv : wt c * L ≤ wt c * val c := Int.mul_le_mul_of_nonneg_left v2 (by omega)
    have hq : wt c * val c < all * (wt c * val c / all) + all := by
      have := Int.emod_lt_of_pos (wt c * val c) hall
      have e := Int.mul_ediv_add_emod (wt c * val c) all
      omega
    have e1 : ((c :: t).length : Int) * (all - 1) = t.length * (all - 1) + (all - 1) := by
      rw [List.length_cons, show ((t.length + 1 : Nat) : Int) = t.length + 1 from rfl, Int.add_mul, Int.one_mul]
    rw [qs, sw, Int.mul_add, Int.mul_add, Int.mul_comm L (wt c), e1]
    omega
end Go.Proofs.Ytgbajigcmadofaa.P
