-- Printed by fprint.py (a program of this session's, over the kit's print), for this claim.
import Derived.Test.YtgmflbgeaiplhaaPx0
import Derived.Test.YtgmflbgeaiplhaaWOpen
import Derived.KernelRfl
namespace Go.Proofs.Ytgmflbgeaiplhaa.P
open Go.RowKit Go.Proofs.YtgmflbgeaiplhaaW.PrintWords Go.Proofs.YtgmflbgeaiplhaaW.PrintOpen
def wf35 (x : S35) : Prop := (Lit.int .i64 x.f0).wf = true ∧ (x.f1.length * 1 ≤ 140737488351232 ∧ ∀ y ∈ x.f1, (Lit.int .u8 y).wf = true)
theorem opens35 : Opens Try.prog k35 35 wf35 :=
  Opens.imp (Opens.struct (f := fun x : S35 => (x.f0, x.f1)) Try.underlying35 (l := [(3, 0), (33, 1)]) rfl (by kernel_rfl) (OpensFs.cons (by kernel_rfl) (Opens.int Try.underlying3) rfl (OpensFs.one (by kernel_rfl) (Opens.slice Try.underlying33 (by kernel_rfl) (B := 1) (by kernel_rfl) (Opens.int Try.underlying5)))) (fun a => ⟨a.1, a.2⟩) (fun _ => rfl)) (fun _ h => h)
end Go.Proofs.Ytgmflbgeaiplhaa.P
