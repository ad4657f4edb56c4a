-- Printed by fprint.py (a program of this session's, over the kit's print), for this claim.
import Derived.Test.YtnkgniokppafhaaPx0
import Derived.Test.YtnkgniokppafhaaWOpen
import Derived.KernelRfl
namespace Go.Proofs.Ytnkgniokppafhaa.P
open Go.RowKit Go.Proofs.YtnkgniokppafhaaW.PrintWords Go.Proofs.YtnkgniokppafhaaW.PrintOpen
def wf33 (x : S33) : Prop := (Lit.int .u32 x.f0).wf = true ∧ (Lit.int .u32 x.f1).wf = true
theorem opens33 : Opens Try.prog k33 33 wf33 :=
  Opens.imp (Opens.struct (f := fun x : S33 => (x.f0, x.f1)) Try.underlying33 (l := [(22, 0), (22, 1)]) rfl (by kernel_rfl) (OpensFs.cons (by kernel_rfl) (Opens.int Try.underlying22) rfl (OpensFs.one (by kernel_rfl) (Opens.int Try.underlying22))) (fun a => ⟨a.1, a.2⟩) (fun _ => rfl)) (fun _ h => h)
end Go.Proofs.Ytnkgniokppafhaa.P
