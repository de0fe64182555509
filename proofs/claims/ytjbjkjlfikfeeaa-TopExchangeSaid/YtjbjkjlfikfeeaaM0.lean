/- Texts of this claim, laid together: each says itself what it proves. -/
import Derived.Deep.Slices
import Derived.ChangeSame
import Derived.ChangeArms
import Derived.SizedLaws
import Derived.Test.YtjbjkjlfikfeeaaV
import Derived.Laws.Entries
/- What an argument that can be read as data holds, told by the words of the printed texts: whole numbers, bools, strings, structs by value, slices of all of these; with the bounds that the row's reach gives. -/
namespace Go.Proofs.Ytjbjkjlfikfeeaa.Op
open Go.ChangeShapes Go.WideShapes Go.Deep Go.RowKit Go.Proofs.YtjbjkjlfikfeeaaW.PrintWords

/-- A type whose data are told by the kind d; Ok: what is known of them. -/
structure Opens {α : Type} (P : Program) (t : TypeId) (d : Kd α) (Ok : α → Prop) : Prop where
  cells : P.cellsOf t = d.sz
  get : ∀ {H : Type} {enc : TypeId × Value → H} {w : World} {base : Nat} {spare : Nat → Bool} {held : Bool} {fuel : Nat} {cs : List Value} {x : DataW H × List MemPlace},
    DataW.trod enc P w base spare held fuel t cs = some x → (∀ n ∈ x.1.weights P t, n ≤ reachBytes) → ∃ a, d.K w a cs ∧ Ok a

variable {P : Program} {t : TypeId}
theorem Opens.int {k : IntKind} (ht : P.underlying t = some (.int k)) (hc : P.cellsOf t = 1) : Opens P t (Kd.int k) (fun x => (Lit.int k x).wf = true) := by
  refine ⟨hc, fun h _ => ?_⟩
  obtain ⟨n, rfl, _, hw⟩ := DataW.trod_int ht h
  exact ⟨n, rfl, hw⟩
theorem Opens.bool (ht : P.underlying t = some .bool) (hc : P.cellsOf t = 1) : Opens P t Kd.bool (fun _ => True) := by
  refine ⟨hc, fun h _ => ?_⟩
  obtain ⟨n, rfl, _⟩ := DataW.trod_bool ht h
  exact ⟨n, rfl, trivial⟩
theorem Opens.string (ht : P.underlying t = some .string) (hc : P.cellsOf t = 1) : Opens P t Kd.string (fun s => s.size ≤ reachBytes) := by
  refine ⟨hc, fun h hw => ?_⟩
  obtain ⟨s, rfl, rfl, _⟩ := DataW.trod_string ht h
  exact ⟨s, rfl, by simpa [DataW.weights] using hw⟩

theorem weightsAll_mem {H : Type} {e : TypeId} {d : DataW H} : ∀ {l : List (DataW H)}, d ∈ l → ∀ n ∈ d.weights P e, n ∈ DataW.weightsAll P e l
  | [], h, _, _ => by cases h
  | c :: l, h, n, hn => by
    rw [DataW.weightsAll, List.mem_append]
    rcases List.mem_cons.1 h with rfl | h
    · exact .inl hn
    · exact .inr (weightsAll_mem h n hn)

theorem Opens.slice {α : Type} {e : TypeId} {d : Kd α} {Ok : α → Prop} {B : Nat} (z : α) (ht : P.underlying t = some (.slice e)) (hc : P.cellsOf t = 1) (hB : P.bytesOf e = B) (h : Opens P e d Ok) :
    Opens P t (Kd.slice e d) (fun xs => xs.length ≤ maxLen ∧ xs.length * B ≤ reachBytes ∧ ∀ x ∈ xs, Ok x) := by
  refine ⟨hc, ?_⟩
  intro H enc w base spare held fuel cs x hx hw
  rcases open_slice ht hx with ⟨rfl, rfl⟩ | ⟨a, len, cap, m, n, D, Pl, rfl, _, hl, hm, hmm, rfl, hi⟩
  · refine ⟨[], ⟨none, 0, rfl, Nat.le_refl _, Kd.C_nil d w⟩, ?_, ?_, ?_⟩
    · exact Nat.zero_le _
    · simp
    · intro x hx; cases hx
  · have hlm : len ≤ m := by rw [hmm]; split <;> omega
    have hw' : ∀ i, i < len → ∀ q ∈ (D i).weights P e, q ≤ reachBytes := by
      intro i hi q hq
      apply hw
      simp only [DataW.weights, ht, List.mem_cons, List.mem_append]
      refine .inr (.inl (weightsAll_mem (List.mem_map.2 ⟨i, List.mem_range.2 hi, rfl⟩) q hq))
    have hex : ∀ i, ∃ y, i < len → ∃ cs', w.cells? base (a.add (i * P.cellsOf e)) (P.cellsOf e) = some cs' ∧ d.K w y cs' ∧ Ok y := by
      intro i
      by_cases hil : i < len
      · obtain ⟨cs', hc', ht'⟩ := hi i (by omega)
        obtain ⟨y, hy, hok⟩ := h.get ht' (hw' i hil)
        exact ⟨y, fun _ => ⟨cs', hc', hy, hok⟩⟩
      · exact ⟨z, fun hh => absurd hh hil⟩
    obtain ⟨f, hf⟩ := Classical.axiomOfChoice hex
    refine ⟨(List.range len).map f, ⟨some a, cap, by simp, by simpa using hl, ?_⟩, by simpa using Nat.le_trans hl hm, ?_, ?_⟩
    · refine ⟨by simp, ?_, fun hn => ⟨a, rfl, ?_⟩⟩
      · simp only [List.length_map, List.length_range]
        unfold maxLen at hm
        omega
      · intro j p hj
        rw [List.getElem?_map] at hj
        have hjl : j < len := by
          rcases Nat.lt_or_ge j len with h' | h'
          · exact h'
          · rw [List.getElem?_eq_none (by simpa using h')] at hj; simp at hj
        rw [List.getElem?_range hjl] at hj
        simp only [Option.map_some, Option.some.injEq] at hj
        subst hj
        obtain ⟨cs', hc', hK, _⟩ := hf j hjl
        obtain ⟨_, hcl, hat⟩ := World.cells?_some hc'
        rw [h.cells] at hcl hat
        refine ⟨cs', hcl, hK, fun i u hu => ?_⟩
        have hil : i < d.sz := by
          rw [← hcl]
          exact (List.getElem?_eq_some_iff.1 hu).1
        have e := hat i hil
        rw [hu, Go.Deep.add_add] at e
        exact e
    · have hww := hw ((len + (m - len)) * P.bytesOf e) (by simp [DataW.weights, ht])
      rw [hB] at hww
      simp only [List.length_map, List.length_range]
      exact Nat.le_trans (Nat.mul_le_mul_right _ (by omega)) hww
    · intro y hy
      obtain ⟨i, hir, rfl⟩ := List.mem_map.1 hy
      obtain ⟨_, _, _, hok⟩ := hf i (List.mem_range.1 hir)
      exact hok

/-! ### structs: their fields, one behind the other -/
theorem weightsEach_at {H : Type} : ∀ {ts : List TypeId} {ds : List (DataW H)} {j : Nat} {t : TypeId} {d : DataW H}, ts[j]? = some t → ds[j]? = some d → ∀ n ∈ d.weights P t, n ∈ DataW.weightsEach P ts ds := DataW.weights_mem_each

structure Chain {α : Type} (P : Program) (fs : List Field) (off : Nat) (d : Kd α) (Ok : α → Prop) : Prop where
  get : ∀ {H : Type} {enc : TypeId × Value → H} {w : World} {base : Nat} {spare : Nat → Bool} {held : Bool} {fuel : Nat} {cs : List Value},
    cs.length = off + d.sz → (∀ (j : Nat) (f : Field), fs[j]? = some f → ∃ y, DataW.trod enc P w base spare held fuel f.type ((cs.drop f.offset).take (P.cellsOf f.type)) = some y ∧ ∀ n ∈ y.1.weights P f.type, n ≤ reachBytes) → ∃ a, d.K w a (cs.drop off) ∧ Ok a
theorem Chain.one {α : Type} {f : Field} {off : Nat} {d : Kd α} {Ok : α → Prop} (h : Opens P f.type d Ok) (ho : f.offset = off) : Chain P [f] off d Ok := by
  refine ⟨fun {H enc w base spare held fuel cs} hl hf => ?_⟩
  obtain ⟨y, hy, hw⟩ := hf 0 f rfl
  rw [ho, h.cells, List.take_of_length_le (by rw [List.length_drop]; omega)] at hy
  exact h.get hy hw
theorem Chain.cons {α β : Type} {f : Field} {fs : List Field} {off : Nat} {d : Kd α} {d' : Kd β} {Ok : α → Prop} {Ok' : β → Prop} (h : Opens P f.type d Ok) (ho : f.offset = off) (hr : Chain P fs (off + d.sz) d' Ok') :
    Chain P (f :: fs) off (Kd.pair d d') (fun x => Ok x.1 ∧ Ok' x.2) := by
  refine ⟨fun {H enc w base spare held fuel cs} hl hf => ?_⟩
  obtain ⟨y, hy, hw⟩ := hf 0 f rfl
  rw [ho, h.cells] at hy
  obtain ⟨a, ha, oka⟩ := h.get hy hw
  have hl' : cs.length = off + (d.sz + d'.sz) := hl
  obtain ⟨b, hb, okb⟩ := hr.get (cs := cs) (by omega) (fun j g hg => hf (j + 1) g hg)
  refine ⟨(a, b), ⟨(cs.drop off).take d.sz, cs.drop (off + d.sz), ?_, ha, hb⟩, oka, okb⟩
  rw [← List.drop_drop, List.take_append_drop]
theorem Opens.struct {α β : Type} {fs : Array Field} {d : Kd α} {Ok : α → Prop} (f : β → α) (g : α → β) (hfg : ∀ a, f (g a) = a) (ht : P.underlying t = some (.struct fs)) (hc : P.cellsOf t = d.sz) (h : Chain P fs.toList 0 d Ok) :
    Opens P t (Kd.iso d f) (fun x => Ok (f x)) := by
  refine ⟨hc, fun {H enc w base spare held fuel cs x} hx hw => ?_⟩
  obtain ⟨xs, n, _, rfl, hl, hlen, hf⟩ := DataW.trod_struct ht hx
  obtain ⟨a, ha, ok⟩ := h.get (enc := enc) (w := w) (base := base) (spare := spare) (held := held) (fuel := n) (cs := cs) (by rw [hl, hc]; omega) (fun j fj hj => by
    have hj' : fs[j]? = some fj := by simpa using hj
    have hjl : j < fs.size := (Array.getElem?_eq_some_iff.1 hj').1
    have hy := hf j fj hj'
    have hxj : xs[j]? = some (xs[j]'(by omega)) := List.getElem?_eq_getElem (by omega)
    refine ⟨xs[j]'(by omega), hy.trans hxj, fun m hm => hw m ?_⟩
    simp only [DataW.weights, ht]
    exact weightsEach_at (j := j) (t := fj.type) (d := (xs[j]'(by omega)).1) (by rw [List.getElem?_map, hj]; rfl) (by rw [List.getElem?_map, hxj]; rfl) m hm)
  exact ⟨g a, by show d.K w (f (g a)) cs; rw [hfg]; exact ha, by rw [hfg]; exact ok⟩

/-! ### an argument -/
theorem small_of {H : Type} {ts : List TypeId} {ds : List (DataW H)} {j : Nat} {d : DataW H} (h : (DataW.weightsEach P ts ds).all (· ≤ reachBytes) = true) (ht : ts[j]? = some t) (hd : ds[j]? = some d) : ∀ n ∈ d.weights P t, n ≤ reachBytes :=
  fun n hn => of_decide_eq_true (List.all_eq_true.1 h n (DataW.weights_mem_each ht hd n hn))
/-- A struct by value. -/
theorem arg_struct {α : Type} {H : Type} {enc : TypeId × Value → H} {w : World} {base : Nat} {spare : Nat → Bool} {held : Bool} {r : Reach} {b0 : Nat} {v : Value} {dt : DataW H} {p : List MemPlace} {fs : Array Field} {d : Kd α} {Ok : α → Prop}
    (o : Opens P t d Ok) (ht : P.underlying t = some (.struct fs)) (hv : Value.okWide P w r b0 t v) (h : DataW.Trod enc P w base spare held t v dt p) (hs : ∀ n ∈ dt.weights P t, n ≤ reachBytes) :
    ∃ a cs, v = .agg cs ∧ d.K w a cs.toList ∧ Ok a := by
  obtain ⟨cs, rfl, _⟩ := okWide_struct ht hv
  obtain ⟨fuel, hf⟩ := h
  obtain ⟨a, ha, ok⟩ := o.get hf hs
  exact ⟨a, cs, rfl, by simpa [Value.cells] using ha, ok⟩
/-- A slice. -/
theorem arg_slice {α : Type} {H : Type} {enc : TypeId × Value → H} {w : World} {base : Nat} {spare : Nat → Bool} {held : Bool} {r : Reach} {b0 : Nat} {v : Value} {dt : DataW H} {p : List MemPlace} {e : TypeId} {d : Kd α} {Ok : List α → Prop}
    (o : Opens P t (Kd.slice e d) Ok) (ht : P.underlying t = some (.slice e)) (hv : Value.okWide P w r b0 t v) (h : DataW.Trod enc P w base spare held t v dt p) (hs : ∀ n ∈ dt.weights P t, n ≤ reachBytes) :
    ∃ xs A c, v = .slice A xs.length c ∧ xs.length ≤ c ∧ d.C w A xs.length xs ∧ Ok xs := by
  obtain ⟨a0, len, cap, rfl⟩ := okWide_slice ht hv
  obtain ⟨fuel, hf⟩ := h
  obtain ⟨xs, ⟨A, c, hcs, hl, hC⟩, ok⟩ := o.get hf hs
  simp only [Value.cells, List.cons.injEq, and_true] at hcs
  exact ⟨xs, A, c, hcs, hl, hC, ok⟩
end Go.Proofs.Ytjbjkjlfikfeeaa.Op
/- A store takes no cell away: a small law for the walks (a cell that is stored into twice). -/
namespace Go.Proofs.Ytjbjkjlfikfeeaa.Op
theorem isSome_setCell (w : World) (a b : Addr) (v : Value) : ((w.setCell a v).cell? b).isSome = (w.cell? b).isSome := by
  by_cases h : a = b
  · subst h
    cases hc : w.cell? a with
    | some u => rw [World.cell?_setCell_same w _ _ hc]; rfl
    | none =>
      unfold World.cell? at hc ⊢
      simp only [World.setCell, Array.getElem?_modify, if_true]
      cases hh : w.heap[a.block]? with
      | none => simp
      | some x =>
        rw [hh] at hc
        cases x with
        | cells c e f =>
          simp only [Option.map_some] at hc ⊢
          cases hs : a.spot with
          | some _ => simp
          | none =>
            simp only [hs, Option.isSome_none] at hc ⊢
            simp only [Bool.false_eq_true, if_false] at hc ⊢
            rw [Array.getElem?_setIfInBounds]
            simp
            rcases Nat.lt_or_ge a.off c.size with h' | h'
            · rw [Array.getElem?_eq_getElem h'] at hc; cases hc
            · omega
        | _ => simp
  · rw [World.cell?_setCell_other (w := w) (h := h)]
end Go.Proofs.Ytjbjkjlfikfeeaa.Op
