/- The types of the laws' arguments, opened: what each value of them that can be read holds, and how large its parts are. -/
import Derived.Test.YtgbajigcmadofaaXOpen
import Derived.Test.YtgbajigcmadofaaPx0
namespace Go.Proofs.Ytgbajigcmadofaa.P
open Go.RowKit Go.Proofs.YtgbajigcmadofaaW.PrintWords Go.Proofs.YtgbajigcmadofaaW.PrintLast
def ok34 (x : S34) : Prop := (Lit.int .i64 x.f0).wf = true ∧ (Lit.int .i64 x.f1).wf = true ∧ (Lit.int .i64 x.f2).wf = true ∧ (Lit.int .i64 x.f3).wf = true ∧ (Lit.int .i64 x.f4).wf = true
theorem opens34 : Op.Opens Try.prog 34 k34 ok34 := Op.Opens.struct (fun x : S34 => (x.f0, x.f1, x.f2, x.f3, x.f4)) (fun p => (⟨p.1, p.2.1, p.2.2.1, p.2.2.2.1, p.2.2.2.2⟩ : S34)) (fun _ => rfl) Try.underlying34 (by kernel_rfl) (Op.Chain.cons (Op.Opens.int Try.underlying3 (by kernel_rfl)) rfl (Op.Chain.cons (Op.Opens.int Try.underlying3 (by kernel_rfl)) rfl (Op.Chain.cons (Op.Opens.int Try.underlying3 (by kernel_rfl)) rfl (Op.Chain.cons (Op.Opens.int Try.underlying3 (by kernel_rfl)) rfl (Op.Chain.one (Op.Opens.int Try.underlying3 (by kernel_rfl)) rfl)))))
def bytes34 : Nat := 40
end Go.Proofs.Ytgbajigcmadofaa.P
