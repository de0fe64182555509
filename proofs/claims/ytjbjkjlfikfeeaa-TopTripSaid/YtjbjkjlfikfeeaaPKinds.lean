/- The types of the laws' arguments, opened: what each value of them that can be read holds, and how large its parts are. -/
import Derived.Test.YtjbjkjlfikfeeaaXOpen
import Derived.Test.YtjbjkjlfikfeeaaPx0
namespace Go.Proofs.Ytjbjkjlfikfeeaa.P
open Go.RowKit Go.Proofs.YtjbjkjlfikfeeaaW.PrintWords Go.Proofs.YtjbjkjlfikfeeaaW.PrintLast
def ok80 (x : S80) : Prop := (Lit.int .i64 x.f0).wf = true ∧ (Lit.int .i64 x.f1).wf = true
theorem opens80 : Op.Opens Try.prog 80 k80 ok80 := Op.Opens.struct (fun x : S80 => (x.f0, x.f1)) (fun p => (⟨p.1, p.2⟩ : S80)) (fun _ => rfl) Try.underlying80 (by kernel_rfl) (Op.Chain.cons (Op.Opens.int Try.underlying3 (by kernel_rfl)) rfl (Op.Chain.one (Op.Opens.int Try.underlying3 (by kernel_rfl)) rfl))
def bytes80 : Nat := 16
def ok24 (x : S24) : Prop := (Lit.int .i64 x.f0).wf = true ∧ (x.f1.length ≤ maxLen ∧ x.f1.length * bytes80 ≤ reachBytes ∧ ∀ y0 ∈ x.f1, ok80 y0)
theorem opens24 : Op.Opens Try.prog 24 k24 ok24 := Op.Opens.struct (fun x : S24 => (x.f0, x.f1)) (fun p => (⟨p.1, p.2⟩ : S24)) (fun _ => rfl) Try.underlying24 (by kernel_rfl) (Op.Chain.cons (Op.Opens.int Try.underlying3 (by kernel_rfl)) rfl (Op.Chain.one (Op.Opens.slice (B := bytes80) z80 Try.underlying22 (by kernel_rfl) (by kernel_rfl) opens80) rfl))
def ok26 (x : S26) : Prop := (Lit.int .i64 x.f0).wf = true ∧ (Lit.int .i64 x.f1).wf = true ∧ (Lit.int .i64 x.f2).wf = true ∧ (Lit.int .i64 x.f3).wf = true ∧ (Lit.int .i64 x.f4).wf = true ∧ (Lit.int .i64 x.f5).wf = true
theorem opens26 : Op.Opens Try.prog 26 k26 ok26 := Op.Opens.struct (fun x : S26 => (x.f0, x.f1, x.f2, x.f3, x.f4, x.f5)) (fun p => (⟨p.1, p.2.1, p.2.2.1, p.2.2.2.1, p.2.2.2.2.1, p.2.2.2.2.2⟩ : S26)) (fun _ => rfl) Try.underlying26 (by kernel_rfl) (Op.Chain.cons (Op.Opens.int Try.underlying3 (by kernel_rfl)) rfl (Op.Chain.cons (Op.Opens.int Try.underlying3 (by kernel_rfl)) rfl (Op.Chain.cons (Op.Opens.int Try.underlying3 (by kernel_rfl)) rfl (Op.Chain.cons (Op.Opens.int Try.underlying3 (by kernel_rfl)) rfl (Op.Chain.cons (Op.Opens.int Try.underlying3 (by kernel_rfl)) rfl (Op.Chain.one (Op.Opens.int Try.underlying3 (by kernel_rfl)) rfl))))))
end Go.Proofs.Ytjbjkjlfikfeeaa.P
