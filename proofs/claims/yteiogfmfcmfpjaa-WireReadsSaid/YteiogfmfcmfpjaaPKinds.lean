/- The types of the laws' arguments, opened: what each value of them that can be read holds, and how large its parts are. -/
import Derived.Test.YteiogfmfcmfpjaaXOpen
import Derived.Test.YteiogfmfcmfpjaaPx0
namespace Go.Proofs.Yteiogfmfcmfpjaa.P
open Go.RowKit Go.Proofs.YteiogfmfcmfpjaaW.PrintWords Go.Proofs.YteiogfmfcmfpjaaW.PrintLast
def bytes5 : Nat := 1
def ok52 (x : S52) : Prop := (Lit.int .i64 x.f0).wf = true ∧ (Lit.int .i64 x.f1).wf = true
theorem opens52 : Op.Opens Try.prog 52 k52 ok52 := Op.Opens.struct (fun x : S52 => (x.f0, x.f1)) (fun p => (⟨p.1, p.2⟩ : S52)) (fun _ => rfl) Try.underlying52 (by kernel_rfl) (Op.Chain.cons (Op.Opens.int Try.underlying3 (by kernel_rfl)) rfl (Op.Chain.one (Op.Opens.int Try.underlying3 (by kernel_rfl)) rfl))
def bytes52 : Nat := 16
def ok45 (x : S45) : Prop := (Lit.int .u64 x.f0).wf = true ∧ (Lit.int .i64 x.f1).wf = true
theorem opens45 : Op.Opens Try.prog 45 k45 ok45 := Op.Opens.struct (fun x : S45 => (x.f0, x.f1)) (fun p => (⟨p.1, p.2⟩ : S45)) (fun _ => rfl) Try.underlying45 (by kernel_rfl) (Op.Chain.cons (Op.Opens.int Try.underlying23 (by kernel_rfl)) rfl (Op.Chain.one (Op.Opens.int Try.underlying3 (by kernel_rfl)) rfl))
def bytes45 : Nat := 16
end Go.Proofs.Yteiogfmfcmfpjaa.P
