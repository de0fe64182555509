/- A word that the shaken words of this seat lack. -/
import Derived.Test.YthneihebdlppeaaV
namespace Go.Proofs.YthneihebdlppeaaW.PrintWords
open Go.RowKit
theorem Kd.fresh' {u : Value} {W : World} (hlt : ∀ k, u.ownBlock = some k → k < W.heap.size) : ∀ k, W.heap.size ≤ k → some k ≠ u.ownBlock := fun k hk he => by have := hlt k he.symm; omega
end Go.Proofs.YthneihebdlppeaaW.PrintWords
