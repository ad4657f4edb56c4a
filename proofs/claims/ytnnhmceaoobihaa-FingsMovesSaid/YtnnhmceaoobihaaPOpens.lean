-- Printed by fprint.py (a program of this session's, over the kit's print), for this claim.
import Derived.Test.YtnnhmceaoobihaaPx0
import Derived.Test.YtnnhmceaoobihaaWOpen
import Derived.KernelRfl
namespace Go.Proofs.Ytnnhmceaoobihaa.P
open Go.RowKit Go.Proofs.YtnnhmceaoobihaaW.PrintWords Go.Proofs.YtnnhmceaoobihaaW.PrintOpen
def wf26 (x : S26) : Prop := (Lit.int .u64 x.f0).wf = true ∧ (Lit.int .u16 x.f1).wf = true
theorem opens26 : Opens Try.prog k26 26 wf26 :=
  Opens.imp (Opens.struct (f := fun x : S26 => (x.f0, x.f1)) Try.underlying26 (l := [(23, 0), (24, 1)]) rfl (by kernel_rfl) (OpensFs.cons (by kernel_rfl) (Opens.int Try.underlying23) rfl (OpensFs.one (by kernel_rfl) (Opens.int Try.underlying24))) (fun a => ⟨a.1, a.2⟩) (fun _ => rfl)) (fun _ h => h)
def wf45 (x : S45) : Prop := (Lit.int .i64 x.f0).wf = true ∧ wf26 x.f1
theorem opens45 : Opens Try.prog k45 45 wf45 :=
  Opens.imp (Opens.struct (f := fun x : S45 => (x.f0, x.f1)) Try.underlying45 (l := [(3, 0), (26, 1)]) rfl (by kernel_rfl) (OpensFs.cons (by kernel_rfl) (Opens.int Try.underlying3) rfl (OpensFs.one (by kernel_rfl) opens26)) (fun a => ⟨a.1, a.2⟩) (fun _ => rfl)) (fun _ h => h)
def wf43 (x : S43) : Prop := wf26 x.f0 ∧ (Lit.int .i64 x.f1).wf = true
theorem opens43 : Opens Try.prog k43 43 wf43 :=
  Opens.imp (Opens.struct (f := fun x : S43 => (x.f0, x.f1)) Try.underlying43 (l := [(26, 0), (3, 2)]) rfl (by kernel_rfl) (OpensFs.cons (by kernel_rfl) opens26 rfl (OpensFs.one (by kernel_rfl) (Opens.int Try.underlying3))) (fun a => ⟨a.1, a.2⟩) (fun _ => rfl)) (fun _ h => h)
end Go.Proofs.Ytnnhmceaoobihaa.P
