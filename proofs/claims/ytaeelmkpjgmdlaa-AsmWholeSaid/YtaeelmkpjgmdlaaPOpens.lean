-- Printed by fprint.py (a program of this session's, over the kit's print), for this claim.
import Derived.Test.YtaeelmkpjgmdlaaPx0
import Derived.Test.YtaeelmkpjgmdlaaWOpen
import Derived.KernelRfl
namespace Go.Proofs.Ytaeelmkpjgmdlaa.P
open Go.RowKit Go.Proofs.YtaeelmkpjgmdlaaW.PrintWords Go.Proofs.YtaeelmkpjgmdlaaW.PrintOpen
def wf23 (x : S23) : Prop := (Lit.int .i64 x.f0).wf = true ∧ (Lit.int .i64 x.f1).wf = true ∧ (Lit.int .i64 x.f2).wf = true
theorem opens23 : Opens Try.prog k23 23 wf23 :=
  Opens.imp (Opens.struct (f := fun x : S23 => (x.f0, x.f1, x.f2)) Try.underlying23 (l := [(3, 0), (3, 1), (3, 2)]) rfl (by kernel_rfl) (OpensFs.cons (by kernel_rfl) (Opens.int Try.underlying3) rfl (OpensFs.cons (by kernel_rfl) (Opens.int Try.underlying3) rfl (OpensFs.one (by kernel_rfl) (Opens.int Try.underlying3)))) (fun a => ⟨a.1, a.2.1, a.2.2⟩) (fun _ => rfl)) (fun _ h => h)
def wf38 (x : S38) : Prop := (Lit.int .u8 x.f0).wf = true ∧ (Lit.int .u8 x.f1).wf = true ∧ (Lit.int .u32 x.f2).wf = true ∧ (Lit.int .u32 x.f3).wf = true ∧ (Lit.int .u16 x.f4).wf = true ∧ (Lit.int .u16 x.f5).wf = true ∧ (x.f6.length * 1 ≤ 140737488351232 ∧ ∀ y ∈ x.f6, (Lit.int .u8 y).wf = true)
theorem opens38 : Opens Try.prog k38 38 wf38 :=
  Opens.imp (Opens.struct (f := fun x : S38 => (x.f0, x.f1, x.f2, x.f3, x.f4, x.f5, x.f6)) Try.underlying38 (l := [(5, 0), (5, 1), (35, 2), (35, 3), (34, 4), (34, 5), (36, 6)]) rfl (by kernel_rfl) (OpensFs.cons (by kernel_rfl) (Opens.int Try.underlying5) rfl (OpensFs.cons (by kernel_rfl) (Opens.int Try.underlying5) rfl (OpensFs.cons (by kernel_rfl) (Opens.int Try.underlying35) rfl (OpensFs.cons (by kernel_rfl) (Opens.int Try.underlying35) rfl (OpensFs.cons (by kernel_rfl) (Opens.int Try.underlying34) rfl (OpensFs.cons (by kernel_rfl) (Opens.int Try.underlying34) rfl (OpensFs.one (by kernel_rfl) (Opens.slice Try.underlying36 (by kernel_rfl) (B := 1) (by kernel_rfl) (Opens.int Try.underlying5))))))))) (fun a => ⟨a.1, a.2.1, a.2.2.1, a.2.2.2.1, a.2.2.2.2.1, a.2.2.2.2.2.1, a.2.2.2.2.2.2⟩) (fun _ => rfl)) (fun _ h => h)
def wf40 (x : S40) : Prop := True ∧ (Lit.int .u16 x.f1).wf = true ∧ wf38 x.f2
theorem opens40 : Opens Try.prog k40 40 wf40 :=
  Opens.imp (Opens.struct (f := fun x : S40 => (x.f0, x.f1, x.f2)) Try.underlying40 (l := [(4, 0), (34, 1), (38, 2)]) rfl (by kernel_rfl) (OpensFs.cons (by kernel_rfl) (Opens.bool Try.underlying4) rfl (OpensFs.cons (by kernel_rfl) (Opens.int Try.underlying34) rfl (OpensFs.one (by kernel_rfl) opens38))) (fun a => ⟨a.1, a.2.1, a.2.2⟩) (fun _ => rfl)) (fun _ h => h)
end Go.Proofs.Ytaeelmkpjgmdlaa.P
