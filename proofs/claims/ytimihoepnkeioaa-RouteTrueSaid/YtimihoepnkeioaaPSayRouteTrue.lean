-- Printed by fprint.py (a program of this session's, over the kit's print), for this claim.
import Derived.Test.YtimihoepnkeioaaPx15
import Derived.Test.YtimihoepnkeioaaPOpens
namespace Go.Proofs.Ytimihoepnkeioaa.P
open Go.RowKit Go.Proofs.YtimihoepnkeioaaW.PrintWords
/-- THE ONE PURE STATEMENT of annuletlaw32_RouteTrue. -/
def annuletlaw32_RouteTrue.Pure : Prop := ∀ (x0 : S34) (a1 : Int), wf34 x0 → (Lit.int .u64 a1).wf = true → ∃ k, annuletlaw32_RouteTrue.f k x0.f0.f0 x0.f0.f1 x0.f1 x0.f2 x0.f3 x0.f4 x0.f5 x0.f6 x0.f7 x0.f8 x0.f9 x0.f10 x0.f11 x0.f12 a1 = some true
end Go.Proofs.Ytimihoepnkeioaa.P
