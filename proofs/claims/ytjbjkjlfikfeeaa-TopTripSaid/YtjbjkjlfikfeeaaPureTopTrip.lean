/- The interval that a reply proves contains true time at its arrival: for every oscillator and every exchange. -/
import Derived.OpenShut
import Derived.Test.YtjbjkjlfikfeeaaPureD
import Derived.Test.YtjbjkjlfikfeeaaQTopTrip
namespace Go.Proofs.Ytjbjkjlfikfeeaa.Pure
open Go.RowKit Go.Proofs.Ytjbjkjlfikfeeaa.P Go.Proofs.YtjbjkjlfikfeeaaW.PrintWords Go.Proofs.YtjbjkjlfikfeeaaW.PrintLast Go.Proofs.YtjbjkjlfikfeeaaW.PrintMore

theorem in_tells (n a b : Int) : osc_in.f n a b = some (decide (a ≤ n ∧ n ≤ b)) := by
  unfold osc_in.f
  by_cases h : n ≥ a
  · rw [if_pos h]; simp; omega
  · rw [if_neg h]; simp; omega
/-- The segment number j. -/
def sg (l : List S80) (j : Nat) : S80 := rd_T80 l (j : Int)
def good (l : List S80) (j : Nat) : Prop := 0 ≤ (sg l j).f0 ∧ (sg l j).f0 ≤ 1125899906842624 ∧ -500000 ≤ (sg l j).f1 ∧ (sg l j).f1 ≤ 500000 ∧ (j = 0 → (sg l j).f0 = 0) ∧ (0 < j → (sg l (j - 1)).f0 < (sg l j).f0)
theorem check_loop (ph : Int) (l : List S80) (hl : l.length ≤ 16) : ∀ (d k i : Nat), i + d = l.length → 3 * d < k → ∃ c, osc_Check.l0 k l (l.length : Int) (i : Int) ph l = some c ∧ (c = 0 → ∀ j, i ≤ j → j < l.length → good l j) := by
  intro d
  induction d with
  | zero =>
    intro k i hi hk
    obtain ⟨k, rfl⟩ : ∃ m, k = m + 1 := ⟨k - 1, by omega⟩
    rw [osc_Check.l0, if_neg (by omega)]
    exact ⟨0, rfl, fun _ j h1 h2 => by omega⟩
  | succ d ih =>
    intro k i hi hk
    obtain ⟨k, rfl⟩ : ∃ m, k = m + 3 := ⟨k - 3, by omega⟩
    obtain ⟨c, hc, hg⟩ := ih k (i + 1) (by omega) (by omega)
    have e1 : wrap64 ((i : Int) + 1) = ((i + 1 : Nat) : Int) := by rw [w64 (by omega) (by omega)]; omega
    have e2 : wrap64 ((i : Int) - 1) = (i : Int) - 1 := w64 (by omega) (by omega)
    have j2f : ∀ A B : Int, (0 < i → (sg l (i - 1)).f0 < (sg l i).f0 → True) → ∃ c, osc_Check.j2 (k + 1) (i : Int) l (l.length : Int) (i : Int) false ph l (sg l i).f0 B = some c ∧ (c = 0 → (0 < i → (sg l (i - 1)).f0 < (sg l i).f0) ∧ ∀ j, i + 1 ≤ j → j < l.length → good l j) := by
      intro A B _
      rw [osc_Check.j2, if_neg (by simp), e1, e2]
      by_cases h0 : (i : Int) > 0
      · rw [if_pos h0, if_pos (by omega), if_pos (by omega)]
        have e3 : rd_T80 l ((i : Int) - 1) = sg l (i - 1) := by unfold sg; congr 1; omega
        rw [e3]
        by_cases h1 : (sg l i).f0 ≤ (sg l (i - 1)).f0
        · rw [if_pos h1]; exact ⟨12, rfl, fun h => by simp at h⟩
        · rw [if_neg h1]; exact ⟨c, hc, fun h => ⟨fun _ => by omega, hg h⟩⟩
      · rw [if_neg h0]; exact ⟨c, hc, fun h => ⟨fun h' => by omega, hg h⟩⟩
    rw [osc_Check.l0, if_pos (by omega), if_pos (by omega), if_pos (by omega), in_tells]
    change ∃ c, (Option.bind (some (decide (0 ≤ (sg l i).f0 ∧ (sg l i).f0 ≤ 1125899906842624))) _) = some c ∧ _
    simp only [Option.bind_some]
    by_cases hA : 0 ≤ (sg l i).f0 ∧ (sg l i).f0 ≤ 1125899906842624
    · rw [if_pos (decide_eq_true hA), in_tells]
      change ∃ c, (Option.bind (some (decide (-500000 ≤ (sg l i).f1 ∧ (sg l i).f1 ≤ 500000))) _) = some c ∧ _
      simp only [Option.bind_some]
      by_cases hB : -500000 ≤ (sg l i).f1 ∧ (sg l i).f1 ≤ 500000
      · rw [decide_eq_true hB, osc_Check.j1, if_neg (by simp)]
        change ∃ c, (if (i : Int) = 0 then osc_Check.j2 (k + 1) i l l.length i (!((sg l i).f0 == 0)) ph l (sg l i).f0 (sg l i).f1 else osc_Check.j2 (k + 1) i l l.length i false ph l (sg l i).f0 (sg l i).f1) = some c ∧ _
        by_cases h0 : (i : Int) = 0
        · rw [if_pos h0]
          by_cases hz : (sg l i).f0 = 0
          · rw [show (!((sg l i).f0 == 0)) = false by simpa using hz]
            obtain ⟨c', hc', hg'⟩ := j2f 0 (sg l i).f1 (fun _ _ => trivial)
            refine ⟨c', hc', fun h j h1 h2 => ?_⟩
            by_cases hj : j = i
            · subst hj; exact ⟨hA.1, hA.2, hB.1, hB.2, fun _ => hz, fun h' => by omega⟩
            · exact (hg' h).2 j (by omega) h2
          · rw [show (!((sg l i).f0 == 0)) = true by simpa using hz, osc_Check.j2, if_pos rfl]
            exact ⟨7, rfl, fun h => by simp at h⟩
        · rw [if_neg h0]
          obtain ⟨c', hc', hg'⟩ := j2f 0 (sg l i).f1 (fun _ _ => trivial)
          refine ⟨c', hc', fun h j h1 h2 => ?_⟩
          by_cases hj : j = i
          · subst hj; exact ⟨hA.1, hA.2, hB.1, hB.2, fun h' => by omega, (hg' h).1⟩
          · exact (hg' h).2 j (by omega) h2
      · rw [decide_eq_false hB, osc_Check.j1, if_pos (by rfl)]
        exact ⟨3, rfl, fun h => by simp at h⟩
    · rw [if_neg (by simpa using hA), osc_Check.j1, if_pos rfl]
      exact ⟨3, rfl, fun h => by simp at h⟩
/-- A valid oscillator. -/
def okOsc (ph : Int) (l : List S80) : Prop := 0 < l.length ∧ l.length ≤ 16 ∧ -1125899906842624 ≤ ph ∧ ph ≤ 1125899906842624 ∧ ∀ j, j < l.length → good l j
theorem check_osc (ph : Int) (l : List S80) (k : Nat) (hk : 50 < k) : ∃ c, osc_Check.f k ph l = some c ∧ (c = 0 → okOsc ph l) := by
  unfold osc_Check.f
  by_cases h0 : (l.length : Int) = 0
  · rw [if_pos h0]; exact ⟨14, rfl, fun h => by simp at h⟩
  rw [if_neg h0]
  by_cases h1 : (l.length : Int) > 16
  · rw [if_pos h1]; exact ⟨6, rfl, fun h => by simp at h⟩
  rw [if_neg h1, in_tells]
  simp only [Option.bind_some]
  by_cases h2 : -1125899906842624 ≤ ph ∧ ph ≤ 1125899906842624
  · rw [if_pos (decide_eq_true h2)]
    obtain ⟨c, hc, hg⟩ := check_loop ph l (by omega) l.length k 0 (by omega) (by omega)
    exact ⟨c, hc, fun h => ⟨by omega, by omega, h2.1, h2.2, fun j hj => hg h j (by omega) hj⟩⟩
  · rw [if_neg (by simpa using h2)]; exact ⟨3, rfl, fun h => by simp at h⟩

/-! ### the spans, the reading -/
/-- Where segment j begins; at the end: the end of all times. -/
def beg (l : List S80) (j : Nat) : Int := if j < l.length then (sg l j).f0 else 1125899906842624
def sp (l : List S80) (j : Nat) : S121 := ⟨⟨(sg l j).f0, (sg l j).f1⟩, beg l (j + 1)⟩
theorem spans_loop (ph : Int) (l : List S80) (hl : l.length ≤ 16) : ∀ (d k i : Nat) (acc : List S121), acc.length = i → i + d = l.length → d < k →
    osc_spans.l0 k acc l (l.length : Int) (i : Int) ph l = some (acc ++ (List.range' i d).map (sp l)) := by
  intro d
  induction d with
  | zero =>
    intro k i acc ha hi hk
    obtain ⟨k, rfl⟩ : ∃ m, k = m + 1 := ⟨k - 1, by omega⟩
    rw [osc_spans.l0, if_neg (by omega)]; simp
  | succ d ih =>
    intro k i acc ha hi hk
    obtain ⟨k, rfl⟩ : ∃ m, k = m + 1 := ⟨k - 1, by omega⟩
    have e1 : wrap64 ((i : Int) + 1) = ((i + 1 : Nat) : Int) := by rw [w64 (by omega) (by omega)]; omega
    have h := ih k (i + 1) (acc ++ [sp l i]) (by simp [ha]) (by omega) (by omega)
    rw [osc_spans.l0, if_pos (by omega), if_pos (by omega), if_pos (by omega), e1]
    have hcat : acc ++ (List.range' i (d + 1)).map (sp l) = (acc ++ [sp l i]) ++ (List.range' (i + 1) d).map (sp l) := by
      rw [List.range'_succ]; simp
    by_cases h2 : ((i + 1 : Nat) : Int) < (l.length : Int)
    · rw [if_pos h2, if_pos (by omega), if_pos (by omega), hcat, ← h]
      have : beg l (i + 1) = (rd_T80 l ((i + 1 : Nat) : Int)).f0 := by unfold beg sg; rw [if_pos (by omega)]
      unfold sp; rw [this]; rfl
    · rw [if_neg h2, if_pos (by omega), hcat, ← h]
      have : beg l (i + 1) = 1125899906842624 := by unfold beg; rw [if_neg (by omega)]
      unfold sp; rw [this]; rfl
theorem spans_tell (ph : Int) (l : List S80) (hl : l.length ≤ 16) (k : Nat) (hk : 50 < k) : osc_spans.f k ph l = some ((List.range' 0 l.length).map (sp l)) := by
  have := spans_loop ph l hl l.length k 0 [] rfl (by omega) (by omega)
  simpa [osc_spans.f] using this
/-- How long segment j has been in force at time t. -/
def dur (l : List S80) (t : Int) (j : Nat) : Int := mx 0 (mn t (beg l (j + 1)) - beg l j)
/-- The sum, over the first segments, of the error times the time. -/
def drf (l : List S80) (t : Int) : Nat → Int
  | 0 => 0
  | j + 1 => drf l t j + (sg l j).f1 * dur l t j
theorem beg_ok {ph : Int} {l : List S80} (h : okOsc ph l) (j : Nat) (hj : j < l.length) : 0 ≤ beg l j ∧ beg l j ≤ 1125899906842624 ∧ beg l j ≤ beg l (j + 1) ∧ beg l (j + 1) ≤ 1125899906842624 ∧ beg l 0 = 0 := by
  obtain ⟨h0, h1, _, _, hg⟩ := h
  obtain ⟨a, b, _, _, _, _⟩ := hg j hj
  have z := (hg 0 h0).2.2.2.2.1 rfl
  have e0 : beg l 0 = 0 := by unfold beg; rw [if_pos h0]; exact z
  have ej : beg l j = (sg l j).f0 := by unfold beg; rw [if_pos hj]
  by_cases h2 : j + 1 < l.length
  · have g := hg (j + 1) h2
    have e1 : beg l (j + 1) = (sg l (j + 1)).f0 := by unfold beg; rw [if_pos h2]
    have g5 := g.2.2.2.2.2 (by omega)
    rw [show j + 1 - 1 = j by omega] at g5
    exact ⟨by omega, by omega, by omega, by have := g.2.1; omega, e0⟩
  · have e1 : beg l (j + 1) = 1125899906842624 := by unfold beg; rw [if_neg h2]
    exact ⟨by omega, by omega, by omega, by omega, e0⟩
theorem dur_ok {ph : Int} {l : List S80} (h : okOsc ph l) (j : Nat) (hj : j < l.length) {t : Int} (h0 : 0 ≤ t) (h1 : t ≤ 1125899906842624) :
    0 ≤ dur l t j ∧ dur l t j ≤ 1125899906842624 ∧ mn t (beg l (j + 1)) = mn t (beg l j) + dur l t j := by
  obtain ⟨a, b, c, d, _⟩ := beg_ok h j hj
  unfold dur mx mn
  refine ⟨?_, ?_, ?_⟩
  · split <;> omega
  · repeat' split
    all_goals omega
  · repeat' split
    all_goals omega
theorem floor_tells {a : Int} (h0 : -9000000000000000000 ≤ a) (h1 : a ≤ 9000000000000000000) : fixed_Floor.f a 1000000000 = some (a / 1000000000, true) := by
  unfold fixed_Floor.f fixed_divides.f
  rw [if_neg (by omega), if_neg (by omega)]
  simp only [Option.bind_some]
  rw [if_pos trivial, if_neg (by omega)]
  have hm : Int.tmod a 1000000000 = a - 1000000000 * Int.tdiv a 1000000000 := Int.tmod_def _ _
  by_cases ha : 0 ≤ a
  · have e : Int.tdiv a 1000000000 = a / 1000000000 := Int.tdiv_eq_ediv_of_nonneg ha
    rw [e] at hm ⊢
    rw [w64 (x := a / 1000000000) (by omega) (by omega), w64 (x := a / 1000000000 - 1) (by omega) (by omega), if_neg (show ¬ a < 0 by omega), if_neg (show ¬ (1000000000 : Int) < 0 by omega)]
    split <;> rfl
  · have e : Int.tdiv a 1000000000 = -((-a) / 1000000000) := by
      have := Int.neg_tdiv (-a) 1000000000
      rw [Int.neg_neg] at this
      rw [this, Int.tdiv_eq_ediv_of_nonneg (by omega)]
    rw [e] at hm ⊢
    rw [w64 (x := -(-a / 1000000000)) (by omega) (by omega), w64 (x := -(-a / 1000000000) - 1) (by omega) (by omega), if_pos (show a < 0 by omega), if_neg (show ¬ (1000000000 : Int) < 0 by omega)]
    by_cases hz : Int.tmod a 1000000000 = 0
    · rw [if_pos hz]; congr 2; omega
    · rw [if_neg hz]; congr 2; omega
theorem read_loop {ph : Int} {l : List S80} (h : okOsc ph l) {t : Int} (h0 : 0 ≤ t) (h1 : t ≤ 1125899906842624) : ∀ (d k i : Nat) (wh re : Int), i + d = l.length → d < k → wh * 1000000000 + re = drf l t i →
    -(700000000000 * (i : Int)) ≤ wh → wh ≤ 700000000000 * i → -(500000000000000 * (i : Int)) ≤ re → re ≤ 500000000000000 * i →
    osc_read.l0 k t wh re ((List.range' 0 l.length).map (sp l)) (l.length : Int) (i : Int) ph l = some (ph + t + drf l t l.length / 1000000000) := by
  intro d
  have hlen := h.2.1
  induction d with
  | zero =>
    intro k i wh re hi hk hs a1 a2 a3 a4
    obtain ⟨k, rfl⟩ : ∃ m, k = m + 1 := ⟨k - 1, by omega⟩
    obtain rfl : i = l.length := by omega
    rw [osc_read.l0, if_neg (by omega), floor_tells (by omega) (by omega)]
    simp only [Option.bind_some]
    have hp := h.2.2.1; have hp' := h.2.2.2.1
    have e : drf l t l.length / 1000000000 = wh + re / 1000000000 := by rw [← hs]; omega
    rw [e, w64 (x := ph + t) (by omega) (by omega), w64 (x := ph + t + wh) (by omega) (by omega), w64 (x := ph + t + wh + re / 1000000000) (by omega) (by omega)]
    congr 1; omega
  | succ d ih =>
    intro k i wh re hi hk hs a1 a2 a3 a4
    obtain ⟨k, rfl⟩ : ∃ m, k = m + 1 := ⟨k - 1, by omega⟩
    have e1 : wrap64 ((i : Int) + 1) = ((i + 1 : Nat) : Int) := by rw [w64 (by omega) (by omega)]; omega
    have hil : i < l.length := by omega
    obtain ⟨d0, d1, _⟩ := dur_ok h i hil h0 h1
    obtain ⟨b0, b1, b2, b3, _⟩ := beg_ok h i hil
    obtain ⟨_, _, p0, p1, _, _⟩ := h.2.2.2.2 i hil
    have er : rd_T121 ((List.range' 0 l.length).map (sp l)) (i : Int) = sp l i := by
      unfold rd_T121
      rw [Int.toNat_natCast, List.getD_eq_getElem?_getD, List.getElem?_map, List.getElem?_range' (by omega)]
      simp
    have ebi : beg l i = (sg l i).f0 := by unfold beg; rw [if_pos hil]
    have en : mx 0 (wrap64 (mn t (beg l (i + 1)) - (sg l i).f0)) = dur l t i := by
      rw [← ebi]
      unfold dur
      rw [w64 (by unfold mn; split <;> omega) (by unfold mn; split <;> omega)]
    rw [osc_read.l0, if_pos (by omega), if_pos (by omega), if_pos (by simp only [List.length_map, List.length_range']; omega), er]
    simp only [sp]
    rw [en, e1]
    generalize hn : dur l t i = n at *
    generalize hp : (sg l i).f1 = p at *
    have m1 : p * (n / 1000000000) ≤ 500000 * (n / 1000000000) := Int.mul_le_mul_of_nonneg_right p1 (by omega)
    have m2 : -500000 * (n / 1000000000) ≤ p * (n / 1000000000) := Int.mul_le_mul_of_nonneg_right p0 (by omega)
    have m3 : p * (n % 1000000000) ≤ 500000 * (n % 1000000000) := Int.mul_le_mul_of_nonneg_right p1 (by omega)
    have m4 : -500000 * (n % 1000000000) ≤ p * (n % 1000000000) := Int.mul_le_mul_of_nonneg_right p0 (by omega)
    have m5 : p * n = p * (n / 1000000000) * 1000000000 + p * (n % 1000000000) := by
      have := Int.mul_ediv_add_emod n 1000000000
      rw [Int.mul_assoc, ← Int.mul_add, Int.mul_comm (n / 1000000000), this]
    have hdr : drf l t (i + 1) = drf l t i + p * n := by simp only [drf]; rw [hn, hp]
    rw [Int.tdiv_eq_ediv_of_nonneg (show 0 ≤ n by omega), w64 (x := n / 1000000000) (by omega) (by omega)]
    generalize p * (n / 1000000000) = u at *
    generalize p * (n % 1000000000) = v at *
    rw [w64 (x := u) (by omega) (by omega), w64 (x := v) (by omega) (by omega), w64 (x := wh + u) (by omega) (by omega), w64 (x := re + v) (by omega) (by omega)]
    exact ih k (i + 1) (wh + u) (re + v) (by omega) (by omega) (by omega) (by omega) (by omega) (by omega) (by omega)
theorem read_tells {ph : Int} {l : List S80} (h : okOsc ph l) {t : Int} (h0 : 0 ≤ t) (h1 : t ≤ 1125899906842624) (k : Nat) (hk : 50 < k) (hc : osc_Check.f k ph l = some 0) : osc_Read.f k ph l t = some (ph + t + drf l t l.length / 1000000000, 0) := by
  unfold osc_Read.f osc_read.f
  rw [hc, in_tells, spans_tell ph l h.2.1 k hk]
  simp only [Option.bind_some]
  rw [if_pos trivial, if_pos (decide_eq_true ⟨h0, h1⟩)]
  have hlen := h.2.1
  have := read_loop h h0 h1 l.length k 0 0 0 (by omega) (by omega) rfl (by omega) (by omega) (by omega) (by omega)
  simp only [List.length_map, List.length_range']
  have e0 : ((0 : Nat) : Int) = 0 := rfl
  rw [e0] at this
  rw [this]; rfl
/-- The greatest error. -/
theorem bound_loop (l : List S80) (hl : l.length ≤ 16) (hg : ∀ j, j < l.length → -500000 ≤ (sg l j).f1 ∧ (sg l j).f1 ≤ 500000) : ∀ (d k i : Nat) (m : Int), i + d = l.length → d < k → 0 ≤ m → m ≤ 500000 → (∀ j, j < i → -m ≤ (sg l j).f1 ∧ (sg l j).f1 ≤ m) →
    ∃ r, osc_Bound.l0 k m l (l.length : Int) (i : Int) = some r ∧ 0 ≤ r ∧ r ≤ 500000 ∧ ∀ j, j < l.length → -r ≤ (sg l j).f1 ∧ (sg l j).f1 ≤ r := by
  intro d
  induction d with
  | zero =>
    intro k i m hi hk m0 m1 hm
    obtain ⟨k, rfl⟩ : ∃ n, k = n + 1 := ⟨k - 1, by omega⟩
    rw [osc_Bound.l0, if_neg (by omega)]
    exact ⟨m, rfl, m0, m1, fun j hj => hm j (by omega)⟩
  | succ d ih =>
    intro k i m hi hk m0 m1 hm
    obtain ⟨k, rfl⟩ : ∃ n, k = n + 1 := ⟨k - 1, by omega⟩
    have e1 : wrap64 ((i : Int) + 1) = ((i + 1 : Nat) : Int) := by rw [w64 (by omega) (by omega)]; omega
    obtain ⟨p0, p1⟩ := hg i (by omega)
    rw [osc_Bound.l0, if_pos (by omega), if_pos (by omega), if_pos (by omega), e1]
    change ∃ r, osc_Bound.l0 k (mx (mx m (sg l i).f1) (wrap64 (-(sg l i).f1))) l l.length _ = some r ∧ _
    rw [w64 (x := -(sg l i).f1) (by omega) (by omega)]
    have hmx : m ≤ mx (mx m (sg l i).f1) (-(sg l i).f1) ∧ (sg l i).f1 ≤ mx (mx m (sg l i).f1) (-(sg l i).f1) ∧ -(sg l i).f1 ≤ mx (mx m (sg l i).f1) (-(sg l i).f1) ∧ mx (mx m (sg l i).f1) (-(sg l i).f1) ≤ 500000 := by
      unfold mx
      refine ⟨?_, ?_, ?_, ?_⟩ <;> repeat' split
      all_goals omega
    refine ih k (i + 1) _ (by omega) (by omega) (by omega) (by omega) (fun j hj => ?_)
    by_cases hji : j = i
    · subst hji; omega
    · have := hm j (by omega); omega
theorem bound_tells {ph : Int} {l : List S80} (h : okOsc ph l) (k : Nat) (hk : 50 < k) (hc : osc_Check.f k ph l = some 0) : ∃ r, osc_Bound.f k ph l = some r ∧ 0 ≤ r ∧ r ≤ 500000 ∧ ∀ j, j < l.length → -r ≤ (sg l j).f1 ∧ (sg l j).f1 ≤ r := by
  unfold osc_Bound.f
  rw [hc]
  simp only [Option.bind_some]
  rw [if_pos trivial]
  have hlen := h.2.1
  exact bound_loop l hlen (fun j hj => ⟨(h.2.2.2.2 j hj).2.2.1, (h.2.2.2.2 j hj).2.2.2.1⟩) l.length k 0 0 (by omega) (by omega) (by omega) (by omega) (fun j hj => by omega)
/-- What an oscillator drifts by, between two times. -/
theorem drift_by {ph : Int} {l : List S80} (h : okOsc ph l) {s t r : Int} (s0 : 0 ≤ s) (st : s ≤ t) (t1 : t ≤ 1125899906842624) (hr : ∀ j, j < l.length → -r ≤ (sg l j).f1 ∧ (sg l j).f1 ≤ r) : ∀ i, i ≤ l.length →
    -(r * (mn t (beg l i) - mn s (beg l i))) ≤ drf l t i - drf l s i ∧ drf l t i - drf l s i ≤ r * (mn t (beg l i) - mn s (beg l i)) := by
  intro i
  induction i with
  | zero =>
    intro _
    have e := (beg_ok h 0 h.1).2.2.2.2
    have : mn t (beg l 0) - mn s (beg l 0) = 0 := by rw [e]; unfold mn; split <;> split <;> omega
    rw [this]; simp [drf]
  | succ i ih =>
    intro hi
    obtain ⟨a, b⟩ := ih (by omega)
    obtain ⟨p0, p1⟩ := hr i (by omega)
    obtain ⟨u0, u1, u2⟩ := dur_ok h i (by omega) s0 (by omega)
    obtain ⟨v0, v1, v2⟩ := dur_ok h i (by omega) (show 0 ≤ t by omega) t1
    have hd : 0 ≤ dur l t i - dur l s i := by
      obtain ⟨b0, b1, b2, b3, _⟩ := beg_ok h i (by omega)
      unfold dur mx mn
      repeat' split
      all_goals omega
    have e : mn t (beg l (i + 1)) - mn s (beg l (i + 1)) = (mn t (beg l i) - mn s (beg l i)) + (dur l t i - dur l s i) := by omega
    simp only [drf]
    rw [e, Int.mul_add]
    have m1 : (sg l i).f1 * (dur l t i - dur l s i) ≤ r * (dur l t i - dur l s i) := Int.mul_le_mul_of_nonneg_right p1 hd
    have m2 : -r * (dur l t i - dur l s i) ≤ (sg l i).f1 * (dur l t i - dur l s i) := Int.mul_le_mul_of_nonneg_right p0 hd
    rw [Int.neg_mul] at m2
    rw [show (sg l i).f1 * (dur l t i - dur l s i) = (sg l i).f1 * dur l t i - (sg l i).f1 * dur l s i from Int.mul_sub _ _ _] at m1 m2
    omega
theorem trip_in {d raw tol : Int} (hd0 : 0 ≤ d) (hd1 : d ≤ 1125899906842624) (t0 : 0 ≤ tol) (t1 : tol ≤ 500000) {f g : Int} (hr : raw = d + (g / 1000000000 - f / 1000000000)) (h1 : -(tol * d) ≤ g - f) (h2 : g - f ≤ tol * d) :
    okEl raw tol ∧ d ≤ hi raw tol := by
  have m3 : tol * d ≤ 500000 * d := Int.mul_le_mul_of_nonneg_right t1 hd0
  have hf := Int.mul_ediv_add_emod f 1000000000
  have hg := Int.mul_ediv_add_emod g 1000000000
  have f0 : 0 ≤ f % 1000000000 := Int.emod_nonneg _ (by omega)
  have f1 : f % 1000000000 < 1000000000 := Int.emod_lt_of_pos _ (by omega)
  have g0 : 0 ≤ g % 1000000000 := Int.emod_nonneg _ (by omega)
  have g1 : g % 1000000000 < 1000000000 := Int.emod_lt_of_pos _ (by omega)
  have e2 : -d * (1000000000 - tol) = -d * 1000000000 + tol * d := by grind
  have hk : (-raw - 1) * 1000000000 < -d * (1000000000 - tol) := by omega
  have hraw : 0 ≤ raw := by
    have : -d * (1000000000 - tol) ≤ 0 := by
      rw [Int.neg_mul]
      have : 0 ≤ d * (1000000000 - tol) := Int.mul_nonneg hd0 (by omega)
      omega
    omega
  have ok : okEl raw tol := by unfold okEl; omega
  have hh : qHi raw tol < -d := by unfold qHi; exact Int.ediv_lt_of_lt_mul (by omega) hk
  refine ⟨ok, ?_⟩
  unfold hi; omega

theorem awake04_tells (k : Nat) (hk : 50 < k) : timesynctop_awake04.f k = some true := by
  have h60 : timesynctop_awake04.f 51 = some true := by decide +kernel
  exact at_rounds (fun k => timesynctop_awake04.mono k) (by omega) h60
theorem TopTrip : timesynctop_TopTrip.Pure := by
  intro x0 x1 _ hx
  obtain ⟨q0, q1, q2, q3, q4, q5⟩ := hx
  have q0 := bounds_i64 q0; have q1 := bounds_i64 q1; have q2 := bounds_i64 q2; have q3 := bounds_i64 q3; have q4 := bounds_i64 q4; have q5 := bounds_i64 q5
  generalize x0.f0 = ph at *; generalize x0.f1 = l at *
  generalize x1.f0 = at0 at *; generalize x1.f1 = out at *; generalize x1.f2 = hold at *; generalize x1.f3 = back at *; generalize x1.f4 = below at *; generalize x1.f5 = above at *
  have yes : ∀ k, timesynctop_TopTrip.j0 (k + 1) true ph l at0 out hold back below above = some true := by
    intro k
    rw [timesynctop_TopTrip.j0]
    rw [if_pos rfl]
  refine ⟨100, ?_⟩
  unfold timesynctop_TopTrip.f
  by_cases c0 : at0 < 0
  · rw [if_pos c0]; exact yes 99
  rw [if_neg c0]
  by_cases c1 : at0 > 281474976710656
  · rw [if_pos c1]; exact yes 99
  rw [if_neg c1]
  by_cases c2 : out < 0
  · rw [if_pos c2]; exact yes 99
  rw [if_neg c2]
  by_cases c3 : out > 1099511627776
  · rw [if_pos c3]; exact yes 99
  rw [if_neg c3]
  by_cases c4 : hold < 0
  · rw [if_pos c4]; exact yes 99
  rw [if_neg c4]
  by_cases c5 : hold > 1099511627776
  · rw [if_pos c5]; exact yes 99
  rw [if_neg c5]
  by_cases c6 : back < 0
  · rw [if_pos c6]; exact yes 99
  rw [if_neg c6]
  by_cases c7 : back > 1099511627776
  · rw [if_pos c7]; exact yes 99
  rw [if_neg c7]
  by_cases c8 : below < 0
  · rw [if_pos c8]; exact yes 99
  rw [if_neg c8]
  by_cases c9 : below > 1099511627776
  · rw [if_pos c9]; exact yes 99
  rw [if_neg c9]
  by_cases c10 : above < 0
  · rw [if_pos c10]; exact yes 99
  rw [if_neg c10]
  by_cases c11 : above > 1099511627776
  · rw [decide_eq_true c11]; exact yes 99
  rw [decide_eq_false c11]
  obtain ⟨c, hc, hok⟩ := check_osc ph l 99 (by omega)
  rw [timesynctop_TopTrip.j0]
  rw [if_neg (by simp), w64 (x := at0 + out) (by omega) (by omega), w64 (x := at0 + out + hold) (by omega) (by omega), w64 (x := at0 + out + hold + back) (by omega) (by omega)]
  by_cases hz : c = 0
  · subst hz
    have ok := hok rfl
    rw [read_tells ok (by omega) (by omega) 99 (by omega) hc, read_tells ok (by omega) (by omega) 99 (by omega) hc, hc]
    simp only [Option.bind_some]
    rw [if_pos trivial]
    obtain ⟨r, hr, r0, r1, hrj⟩ := bound_tells ok 98 (by omega) (by
      obtain ⟨c', hc', _⟩ := check_osc ph l 98 (by omega)
      have := at_rounds (fun k => osc_Check.mono ph l k) (show 98 ≤ 99 by omega) hc'
      rw [hc] at this
      rw [hc', Option.some.inj this])
    rw [timesynctop_TopTrip.j1]
    rw [if_neg (by simp), if_pos rfl, hr]
    simp only [Option.bind_some]
    have hdr := drift_by ok (s := at0) (t := at0 + out + hold + back) (by omega) (by omega) (by omega) hrj l.length (Nat.le_refl _)
    have hbe : beg l l.length = 1125899906842624 := by unfold beg; rw [if_neg (by omega)]
    have em : mn (at0 + out + hold + back) (beg l l.length) - mn at0 (beg l l.length) = out + hold + back := by rw [hbe]; unfold mn; split <;> split <;> omega
    rw [em] at hdr
    generalize hF : drf l at0 l.length = F at *
    generalize hG : drf l (at0 + out + hold + back) l.length = G at *
    have hin := trip_in (d := out + hold + back) (raw := (ph + (at0 + out + hold + back) + G / 1000000000) - (ph + at0 + F / 1000000000)) (tol := r) (f := F) (g := G) (by omega) (by omega) r0 r1 (by omega) hdr.1 hdr.2
    obtain ⟨okE, hhi⟩ := hin
    have hEl := lo_hi okE
    have hE1 := okE.2.1; have hE0 := okE.1
    rw [w64 (x := ph + (at0 + out + hold + back) + G / 1000000000 - (ph + at0 + F / 1000000000)) (by omega) (by omega), w64 (x := at0 + out + hold - below) (by omega) (by omega), w64 (x := at0 + out + hold + above) (by omega) (by omega), w64 (x := at0 + out + hold + back) (by omega) (by omega)]
    generalize hraw : ph + (at0 + out + hold + back) + G / 1000000000 - (ph + at0 + F / 1000000000) = raw at *
    have htr : tripped (at0 + out + hold - below) (at0 + out + hold + above) raw hold r = (at0 + out + hold - below, at0 + out + hold + above + hi raw r - hold, 0) := by
      unfold tripped
      rw [if_pos (show okIv _ _ by unfold okIv; omega), if_pos okE, if_neg (by omega), if_neg (by omega), w64 (x := at0 + out + hold + above + hi raw r) (by omega) (by omega), w64 (x := at0 + out + hold + above + hi raw r - hold) (by omega) (by omega)]
      unfold vald
      rw [if_pos (show okIv _ _ by unfold okIv; omega)]
    rw [trip_tells _ _ _ _ _ 97, htr]
    simp only [Option.bind_some]
    rw [if_pos trivial, has_tells, decide_eq_true (by refine ⟨?_, by omega, by omega⟩; unfold okIv; omega)]
    rfl
  · have hrd : ∀ t, osc_Read.f 99 ph l t = some (0, c) := by
      intro t
      unfold osc_Read.f
      rw [hc]
      simp only [Option.bind_some]
      rw [if_neg hz]
    rw [hrd, hrd, hc]
    simp only [Option.bind_some]
    rw [if_pos trivial, timesynctop_TopTrip.j1]
    rw [if_neg (by simp), if_neg hz, awake04_tells 98 (by omega)]
    rfl
end Go.Proofs.Ytjbjkjlfikfeeaa.Pure
