-- Printed by fprint.py (a program of this session's, over the kit's print), for this claim.
import Derived.Test.YtakbkpgbchdocaaPx0
import Derived.Test.YtakbkpgbchdocaaWOpen
import Derived.KernelRfl
namespace Go.Proofs.Ytakbkpgbchdocaa.P
open Go.RowKit Go.Proofs.YtakbkpgbchdocaaW.PrintWords Go.Proofs.YtakbkpgbchdocaaW.PrintOpen
def wf26 (x : S26) : Prop := (Lit.int .u16 x.f0).wf = true ∧ (Lit.int .u16 x.f1).wf = true ∧ (x.f2.length * 1 ≤ 140737488351232 ∧ ∀ y ∈ x.f2, (Lit.int .u8 y).wf = true) ∧ True
theorem opens26 : Opens Try.prog k26 26 wf26 :=
  Opens.imp (Opens.struct (f := fun x : S26 => (x.f0, x.f1, x.f2, x.f3)) Try.underlying26 (l := [(23, 0), (23, 1), (24, 2), (4, 3)]) rfl (by kernel_rfl) (OpensFs.cons (by kernel_rfl) (Opens.int Try.underlying23) rfl (OpensFs.cons (by kernel_rfl) (Opens.int Try.underlying23) rfl (OpensFs.cons (by kernel_rfl) (Opens.slice Try.underlying24 (by kernel_rfl) (B := 1) (by kernel_rfl) (Opens.int Try.underlying5)) rfl (OpensFs.one (by kernel_rfl) (Opens.bool Try.underlying4))))) (fun a => ⟨a.1, a.2.1, a.2.2.1, a.2.2.2⟩) (fun _ => rfl)) (fun _ h => h)
end Go.Proofs.Ytakbkpgbchdocaa.P
