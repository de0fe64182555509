/-
  No cell of these rows narrows 'for every input' (looked for: loops, veiled, ifaces, maps, wideKeys, modest, calm, conditions, laid).
  DERIVED. THE GIVEN ROWS OF THIS SEAT. 7 by the template 'for every input the law returns true; each argument reads behind the call as it read before'; 0 by the template 'total and deterministic' (their statements: YtfncdkklhmjgoaaTotals.lean).
  GIVEN WITH THE SEED: the statements are not yours to turn. If you find one false, say at which input.
  Laid BY PROGRAM, IN A SANDBOX (cutbox-rows.mjs): the forced cells as the released guide's own fill.sh prints them over the translation 12ec3f9c8fc41e20… (all of the seat's roots in one cut). By AI agents, Wed Nov 11 2026. No macro, syntax, notation, axiom, sorry.
-/
import Derived.Test.YtfncdkklhmjgoaaChecked
import GoSem.Claim
import GoSem.ClaimJoined
import GoSem.ClaimMapViews
import Derived.JoinedTies
import Derived.KernelRfl
namespace Go.Proofs.Ytfncdkklhmjgoaa
/- THE CELL 'sum', in the pinned program and in every row, IS THE sha256 OF THE DUMP (.gsa) THAT YtfncdkklhmjgoaaProg.lean LOADS. Nothing in Lean hashes anything: it is a label: what it is worth is what the hold of that sum in a sandbox is worth. -/
noncomputable def Try.pinned : Pinned := { name := "ytfncdkklhmjgoaa", sum := "12ec3f9c8fc41e20832ef3c2522133adaf615d4d6b38952b4d31e83a6be4417b", checked := Try.checked }
namespace Rows
def none {H : Type} : Left H := { results := [], args := [] }

/-- 'timesynclaw11.DriftBounds': WHATEVER THE INPUT: true; the input reads as it did. -/
def driftBoundsSpec : ChangeSpec := { name := "driftBounds", fn := fun _ => fun
  | [d1, d2, d3] => { results := [.lit (.bool true)], args := [d1, d2, d3] }
  | _ => none }
def driftBoundsRow : OpenClaim := { program := "ytfncdkklhmjgoaa", sum := "12ec3f9c8fc41e20832ef3c2522133adaf615d4d6b38952b4d31e83a6be4417b", func := "timesync/timesynclaw11.DriftBounds", spec := "driftBounds", named := ["math/bits.divideError", "math/bits.overflowError"], apart := false }
def DriftBoundsSaid : Prop := driftBoundsRow.holds Try.pinned (OpenSpec.ofChange driftBoundsSpec)

/-- ITS FALSE NEIGHBOUR: 'it returns false'. Refute it at one input. -/
def driftBoundsWrong : ChangeSpec := { name := "driftBounds", fn := fun _ => fun
  | [d1, d2, d3] => { results := [.lit (.bool false)], args := [d1, d2, d3] }
  | _ => none }
def DriftBoundsWrongFalsely : Prop := driftBoundsRow.holds Try.pinned (OpenSpec.ofChange driftBoundsWrong)

/-- 'timesynclaw11.DriftAges': WHATEVER THE INPUT: true; the input reads as it did. -/
def driftAgesSpec : ChangeSpec := { name := "driftAges", fn := fun _ => fun
  | [d1, d2, d3] => { results := [.lit (.bool true)], args := [d1, d2, d3] }
  | _ => none }
def driftAgesRow : OpenClaim := { program := "ytfncdkklhmjgoaa", sum := "12ec3f9c8fc41e20832ef3c2522133adaf615d4d6b38952b4d31e83a6be4417b", func := "timesync/timesynclaw11.DriftAges", spec := "driftAges", named := ["math/bits.divideError", "math/bits.overflowError"], apart := false }
def DriftAgesSaid : Prop := driftAgesRow.holds Try.pinned (OpenSpec.ofChange driftAgesSpec)

/-- ITS FALSE NEIGHBOUR: 'it returns false'. Refute it at one input. -/
def driftAgesWrong : ChangeSpec := { name := "driftAges", fn := fun _ => fun
  | [d1, d2, d3] => { results := [.lit (.bool false)], args := [d1, d2, d3] }
  | _ => none }
def DriftAgesWrongFalsely : Prop := driftAgesRow.holds Try.pinned (OpenSpec.ofChange driftAgesWrong)

/-- 'timesynclaw11.DriftTrips': WHATEVER THE INPUT: true; the input reads as it did. -/
def driftTripsSpec : ChangeSpec := { name := "driftTrips", fn := fun _ => fun
  | [d1, d2, d3, d4] => { results := [.lit (.bool true)], args := [d1, d2, d3, d4] }
  | _ => none }
def driftTripsRow : OpenClaim := { program := "ytfncdkklhmjgoaa", sum := "12ec3f9c8fc41e20832ef3c2522133adaf615d4d6b38952b4d31e83a6be4417b", func := "timesync/timesynclaw11.DriftTrips", spec := "driftTrips", named := ["math/bits.divideError", "math/bits.overflowError"], apart := false }
def DriftTripsSaid : Prop := driftTripsRow.holds Try.pinned (OpenSpec.ofChange driftTripsSpec)

/-- ITS FALSE NEIGHBOUR: 'it returns false'. Refute it at one input. -/
def driftTripsWrong : ChangeSpec := { name := "driftTrips", fn := fun _ => fun
  | [d1, d2, d3, d4] => { results := [.lit (.bool false)], args := [d1, d2, d3, d4] }
  | _ => none }
def DriftTripsWrongFalsely : Prop := driftTripsRow.holds Try.pinned (OpenSpec.ofChange driftTripsWrong)

/-- 'timesynclaw11.DriftHolds': WHATEVER THE INPUT: true; the input reads as it did. -/
def driftHoldsSpec : ChangeSpec := { name := "driftHolds", fn := fun _ => fun
  | [d1, d2, d3] => { results := [.lit (.bool true)], args := [d1, d2, d3] }
  | _ => none }
def driftHoldsRow : OpenClaim := { program := "ytfncdkklhmjgoaa", sum := "12ec3f9c8fc41e20832ef3c2522133adaf615d4d6b38952b4d31e83a6be4417b", func := "timesync/timesynclaw11.DriftHolds", spec := "driftHolds", named := ["math/bits.divideError", "math/bits.overflowError"], apart := false }
def DriftHoldsSaid : Prop := driftHoldsRow.holds Try.pinned (OpenSpec.ofChange driftHoldsSpec)

/-- ITS FALSE NEIGHBOUR: 'it returns false'. Refute it at one input. -/
def driftHoldsWrong : ChangeSpec := { name := "driftHolds", fn := fun _ => fun
  | [d1, d2, d3] => { results := [.lit (.bool false)], args := [d1, d2, d3] }
  | _ => none }
def DriftHoldsWrongFalsely : Prop := driftHoldsRow.holds Try.pinned (OpenSpec.ofChange driftHoldsWrong)

/-- 'timesynclaw11.DriftContains': WHATEVER THE INPUT: true; the input reads as it did. -/
def driftContainsSpec : ChangeSpec := { name := "driftContains", fn := fun _ => fun
  | [d1, d2, d3] => { results := [.lit (.bool true)], args := [d1, d2, d3] }
  | _ => none }
def driftContainsRow : OpenClaim := { program := "ytfncdkklhmjgoaa", sum := "12ec3f9c8fc41e20832ef3c2522133adaf615d4d6b38952b4d31e83a6be4417b", func := "timesync/timesynclaw11.DriftContains", spec := "driftContains", named := ["math/bits.divideError", "math/bits.overflowError"], apart := false }
def DriftContainsSaid : Prop := driftContainsRow.holds Try.pinned (OpenSpec.ofChange driftContainsSpec)

/-- ITS FALSE NEIGHBOUR: 'it returns false'. Refute it at one input. -/
def driftContainsWrong : ChangeSpec := { name := "driftContains", fn := fun _ => fun
  | [d1, d2, d3] => { results := [.lit (.bool false)], args := [d1, d2, d3] }
  | _ => none }
def DriftContainsWrongFalsely : Prop := driftContainsRow.holds Try.pinned (OpenSpec.ofChange driftContainsWrong)

/-- 'timesynclaw11.DriftWidens': WHATEVER THE INPUT: true; the input reads as it did. -/
def driftWidensSpec : ChangeSpec := { name := "driftWidens", fn := fun _ => fun
  | [d1, d2, d3, d4] => { results := [.lit (.bool true)], args := [d1, d2, d3, d4] }
  | _ => none }
def driftWidensRow : OpenClaim := { program := "ytfncdkklhmjgoaa", sum := "12ec3f9c8fc41e20832ef3c2522133adaf615d4d6b38952b4d31e83a6be4417b", func := "timesync/timesynclaw11.DriftWidens", spec := "driftWidens", named := ["math/bits.divideError", "math/bits.overflowError"], apart := false }
def DriftWidensSaid : Prop := driftWidensRow.holds Try.pinned (OpenSpec.ofChange driftWidensSpec)

/-- ITS FALSE NEIGHBOUR: 'it returns false'. Refute it at one input. -/
def driftWidensWrong : ChangeSpec := { name := "driftWidens", fn := fun _ => fun
  | [d1, d2, d3, d4] => { results := [.lit (.bool false)], args := [d1, d2, d3, d4] }
  | _ => none }
def DriftWidensWrongFalsely : Prop := driftWidensRow.holds Try.pinned (OpenSpec.ofChange driftWidensWrong)

/-- 'timesynclaw11.DriftSets': WHATEVER THE INPUT: true; the input reads as it did. -/
def driftSetsSpec : ChangeSpec := { name := "driftSets", fn := fun _ => fun
  | [d1, d2, d3] => { results := [.lit (.bool true)], args := [d1, d2, d3] }
  | _ => none }
def driftSetsRow : OpenClaim := { program := "ytfncdkklhmjgoaa", sum := "12ec3f9c8fc41e20832ef3c2522133adaf615d4d6b38952b4d31e83a6be4417b", func := "timesync/timesynclaw11.DriftSets", spec := "driftSets", named := ["math/bits.divideError", "math/bits.overflowError"], apart := false }
def DriftSetsSaid : Prop := driftSetsRow.holds Try.pinned (OpenSpec.ofChange driftSetsSpec)

/-- ITS FALSE NEIGHBOUR: 'it returns false'. Refute it at one input. -/
def driftSetsWrong : ChangeSpec := { name := "driftSets", fn := fun _ => fun
  | [d1, d2, d3] => { results := [.lit (.bool false)], args := [d1, d2, d3] }
  | _ => none }
def DriftSetsWrongFalsely : Prop := driftSetsRow.holds Try.pinned (OpenSpec.ofChange driftSetsWrong)

/- THE SECOND FORM. 'bulk': how many values and letters a reading holds, each counted each time it is reached (what is shared counts as often as it is met; a slice's spare places count too). A statement '..UptoSaid' is the law's where the arguments, and the package variables that the reading takes, are together of bulk at most 1048576: NARROWER than '..Said'. Prove '..Said' where nothing that the law and all that it calls make is longer than what came in: it says more and counts as full. Else prove '..UptoSaid'. A law counts once. -/
mutual
def uptoBulk {H : Type} : DataW H → Nat
  | .lit (.string bytes) => bytes.length + 1
  | .lit _ => 1
  | .nil => 1
  | .ptr d => uptoBulk d + 1
  | .slice elems spare => uptoBulkAll elems + uptoBulkAll spare + 1
  | .agg parts => uptoBulkAll parts + 1
  | .iface _ d => uptoBulk d + 1
  | .map entries => uptoBulkEntries entries + 1
  | .held _ => 1
def uptoBulkAll {H : Type} : List (DataW H) → Nat
  | [] => 0
  | d :: r => uptoBulk d + uptoBulkAll r
def uptoBulkEntries {H : Type} : List (Lit × DataW H) → Nat
  | [] => 0
  | x :: r => uptoBulkEntry x + uptoBulkEntries r
def uptoBulkEntry {H : Type} : Lit × DataW H → Nat
  | (.string bytes, d) => bytes.length + uptoBulk d + 1
  | (_, d) => uptoBulk d + 1
 end
def uptoSmall : (H : Type) → List (DataW H) → Bool := fun _ ds => decide (uptoBulkAll ds ≤ 1048576)
def OpenSpec.upto (s : _root_.Go.ChangeSpec) : _root_.Go.OpenSpec := { _root_.Go.OpenSpec.ofChange s with cond := some uptoSmall }

/-- 'timesynclaw11.DriftBounds', WHERE WHAT IT READS IS OF BULK AT MOST 1048576: true; the input reads as it did. -/
def driftBoundsUptoRow : OpenClaim := { program := "ytfncdkklhmjgoaa", sum := "12ec3f9c8fc41e20832ef3c2522133adaf615d4d6b38952b4d31e83a6be4417b", func := "timesync/timesynclaw11.DriftBounds", spec := "driftBounds", named := ["math/bits.divideError", "math/bits.overflowError"], apart := false, narrowed := true }
def DriftBoundsUptoSaid : Prop := driftBoundsUptoRow.holds Try.pinned (OpenSpec.upto driftBoundsSpec)

/-- 'timesynclaw11.DriftAges', WHERE WHAT IT READS IS OF BULK AT MOST 1048576: true; the input reads as it did. -/
def driftAgesUptoRow : OpenClaim := { program := "ytfncdkklhmjgoaa", sum := "12ec3f9c8fc41e20832ef3c2522133adaf615d4d6b38952b4d31e83a6be4417b", func := "timesync/timesynclaw11.DriftAges", spec := "driftAges", named := ["math/bits.divideError", "math/bits.overflowError"], apart := false, narrowed := true }
def DriftAgesUptoSaid : Prop := driftAgesUptoRow.holds Try.pinned (OpenSpec.upto driftAgesSpec)

/-- 'timesynclaw11.DriftTrips', WHERE WHAT IT READS IS OF BULK AT MOST 1048576: true; the input reads as it did. -/
def driftTripsUptoRow : OpenClaim := { program := "ytfncdkklhmjgoaa", sum := "12ec3f9c8fc41e20832ef3c2522133adaf615d4d6b38952b4d31e83a6be4417b", func := "timesync/timesynclaw11.DriftTrips", spec := "driftTrips", named := ["math/bits.divideError", "math/bits.overflowError"], apart := false, narrowed := true }
def DriftTripsUptoSaid : Prop := driftTripsUptoRow.holds Try.pinned (OpenSpec.upto driftTripsSpec)

/-- 'timesynclaw11.DriftHolds', WHERE WHAT IT READS IS OF BULK AT MOST 1048576: true; the input reads as it did. -/
def driftHoldsUptoRow : OpenClaim := { program := "ytfncdkklhmjgoaa", sum := "12ec3f9c8fc41e20832ef3c2522133adaf615d4d6b38952b4d31e83a6be4417b", func := "timesync/timesynclaw11.DriftHolds", spec := "driftHolds", named := ["math/bits.divideError", "math/bits.overflowError"], apart := false, narrowed := true }
def DriftHoldsUptoSaid : Prop := driftHoldsUptoRow.holds Try.pinned (OpenSpec.upto driftHoldsSpec)

/-- 'timesynclaw11.DriftContains', WHERE WHAT IT READS IS OF BULK AT MOST 1048576: true; the input reads as it did. -/
def driftContainsUptoRow : OpenClaim := { program := "ytfncdkklhmjgoaa", sum := "12ec3f9c8fc41e20832ef3c2522133adaf615d4d6b38952b4d31e83a6be4417b", func := "timesync/timesynclaw11.DriftContains", spec := "driftContains", named := ["math/bits.divideError", "math/bits.overflowError"], apart := false, narrowed := true }
def DriftContainsUptoSaid : Prop := driftContainsUptoRow.holds Try.pinned (OpenSpec.upto driftContainsSpec)

/-- 'timesynclaw11.DriftWidens', WHERE WHAT IT READS IS OF BULK AT MOST 1048576: true; the input reads as it did. -/
def driftWidensUptoRow : OpenClaim := { program := "ytfncdkklhmjgoaa", sum := "12ec3f9c8fc41e20832ef3c2522133adaf615d4d6b38952b4d31e83a6be4417b", func := "timesync/timesynclaw11.DriftWidens", spec := "driftWidens", named := ["math/bits.divideError", "math/bits.overflowError"], apart := false, narrowed := true }
def DriftWidensUptoSaid : Prop := driftWidensUptoRow.holds Try.pinned (OpenSpec.upto driftWidensSpec)

/-- 'timesynclaw11.DriftSets', WHERE WHAT IT READS IS OF BULK AT MOST 1048576: true; the input reads as it did. -/
def driftSetsUptoRow : OpenClaim := { program := "ytfncdkklhmjgoaa", sum := "12ec3f9c8fc41e20832ef3c2522133adaf615d4d6b38952b4d31e83a6be4417b", func := "timesync/timesynclaw11.DriftSets", spec := "driftSets", named := ["math/bits.divideError", "math/bits.overflowError"], apart := false, narrowed := true }
def DriftSetsUptoSaid : Prop := driftSetsUptoRow.holds Try.pinned (OpenSpec.upto driftSetsSpec)

end Rows
end Go.Proofs.Ytfncdkklhmjgoaa
