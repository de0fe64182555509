/- The types of the laws' arguments, opened: what each value of them that can be read holds, and how large its parts are. -/
import Derived.Test.YtfncdkklhmjgoaaXOpen
import Derived.Test.YtfncdkklhmjgoaaPx0
namespace Go.Proofs.Ytfncdkklhmjgoaa.P
open Go.RowKit Go.Proofs.YtfncdkklhmjgoaaW.PrintWords Go.Proofs.YtfncdkklhmjgoaaW.PrintLast
def ok23 (x : S23) : Prop := (Lit.int .i64 x.f0).wf = true ∧ (Lit.int .i64 x.f1).wf = true
theorem opens23 : Op.Opens Try.prog 23 k23 ok23 := Op.Opens.struct (fun x : S23 => (x.f0, x.f1)) (fun p => (⟨p.1, p.2⟩ : S23)) (fun _ => rfl) Try.underlying23 (by kernel_rfl) (Op.Chain.cons (Op.Opens.int Try.underlying3 (by kernel_rfl)) rfl (Op.Chain.one (Op.Opens.int Try.underlying3 (by kernel_rfl)) rfl))
end Go.Proofs.Ytfncdkklhmjgoaa.P
