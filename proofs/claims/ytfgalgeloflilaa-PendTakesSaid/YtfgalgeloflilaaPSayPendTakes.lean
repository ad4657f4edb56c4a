-- Printed by fprint.py (a program of this session's, over the kit's print), for this claim.
import Derived.Test.YtfgalgeloflilaaPx18
import Derived.Test.YtfgalgeloflilaaPOpens
namespace Go.Proofs.Ytfgalgeloflilaa.P
open Go.RowKit Go.Proofs.YtfgalgeloflilaaW.PrintWords
/-- THE ONE PURE STATEMENT of annuletlaw30_PendTakes. -/
def annuletlaw30_PendTakes.Pure : Prop := ∀ (x0 : S34) (a1 : Int) (a2 : Int) (a3 : Int) (a4 : Int) (a5 : Int), wf34 x0 → (Lit.int .u32 a1).wf = true → (Lit.int .i64 a2).wf = true → (Lit.int .i64 a3).wf = true → (Lit.int .i64 a4).wf = true → (Lit.int .u16 a5).wf = true → annuletlaw30_PendTakes.f x0.f0.f0 x0.f0.f1 x0.f1 x0.f2 x0.f3 x0.f4 x0.f5 x0.f6 x0.f7 x0.f8 x0.f9 x0.f10 x0.f11 x0.f12 a1 a2 a3 a4 a5 = some true
end Go.Proofs.Ytfgalgeloflilaa.P
