-- Printed by fprint.py (a program of this session's, over the kit's print), for this claim.
import Derived.Test.YtnkgniokppafhaaQx0
import Derived.Test.YtnkgniokppafhaaWOpen
import Derived.KernelRfl
namespace Go.Proofs.Ytnkgniokppafhaa.Q
open Go.RowKit Go.Proofs.YtnkgniokppafhaaW.PrintWords Go.Proofs.YtnkgniokppafhaaW.PrintOpen
def wf25 (x : S25) : Prop := True ∧ (Lit.int .u32 x.f1).wf = true ∧ (Lit.int .u32 x.f2).wf = true ∧ (Lit.int .u64 x.f3).wf = true
theorem opens25 : Opens Try.prog k25 25 wf25 :=
  Opens.imp (Opens.struct (f := fun x : S25 => (x.f0, x.f1, x.f2, x.f3)) Try.underlying25 (l := [(4, 0), (22, 1), (22, 2), (23, 3)]) rfl (by kernel_rfl) (OpensFs.cons (by kernel_rfl) (Opens.bool Try.underlying4) rfl (OpensFs.cons (by kernel_rfl) (Opens.int Try.underlying22) rfl (OpensFs.cons (by kernel_rfl) (Opens.int Try.underlying22) rfl (OpensFs.one (by kernel_rfl) (Opens.int Try.underlying23))))) (fun a => ⟨a.1, a.2.1, a.2.2.1, a.2.2.2⟩) (fun _ => rfl)) (fun _ h => h)
end Go.Proofs.Ytnkgniokppafhaa.Q
