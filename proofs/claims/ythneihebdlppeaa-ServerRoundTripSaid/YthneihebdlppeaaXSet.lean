/- A store takes no cell away: a small law for the walks (a cell that is stored into twice). -/
import Derived.Laws.Entries
namespace Go.Proofs.Ythneihebdlppeaa.Op
theorem isSome_setCell (w : World) (a b : Addr) (v : Value) : ((w.setCell a v).cell? b).isSome = (w.cell? b).isSome := by
  by_cases h : a = b
  · subst h
    cases hc : w.cell? a with
    | some u => rw [World.cell?_setCell_same w _ _ hc]; rfl
    | none =>
      unfold World.cell? at hc ⊢
      simp only [World.setCell, Array.getElem?_modify, if_true]
      cases hh : w.heap[a.block]? with
      | none => simp
      | some x =>
        rw [hh] at hc
        cases x with
        | cells c e f =>
          simp only [Option.map_some] at hc ⊢
          cases hs : a.spot with
          | some _ => simp
          | none =>
            simp only [hs, Option.isSome_none] at hc ⊢
            simp only [Bool.false_eq_true, if_false] at hc ⊢
            rw [Array.getElem?_setIfInBounds]
            simp
            rcases Nat.lt_or_ge a.off c.size with h' | h'
            · rw [Array.getElem?_eq_getElem h'] at hc; cases hc
            · omega
        | _ => simp
  · rw [World.cell?_setCell_other (w := w) (h := h)]
end Go.Proofs.Ythneihebdlppeaa.Op
