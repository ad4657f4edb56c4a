-- Printed by fprint.py (a program of this session's, over the kit's print), for this claim.
import Derived.Test.YtfgalgeloflilaaPx18
import Derived.Test.YtfgalgeloflilaaPOpens
namespace Go.Proofs.Ytfgalgeloflilaa.P
open Go.RowKit Go.Proofs.YtfgalgeloflilaaW.PrintWords
/-- THE ONE PURE STATEMENT of annuletlaw30_PendAsks. -/
def annuletlaw30_PendAsks.Pure : Prop := ∀ (x0 : S34) (x1 : S25) (x2 : S37) (a3 : Int) (a4 : Int), wf34 x0 → wf25 x1 → wf37 x2 → (Lit.int .i64 a3).wf = true → (Lit.int .i64 a4).wf = true → annuletlaw30_PendAsks.f x0.f0.f0 x0.f0.f1 x0.f1 x0.f2 x0.f3 x0.f4 x0.f5 x0.f6 x0.f7 x0.f8 x0.f9 x0.f10 x0.f11 x0.f12 x1.f0 x1.f1 x2.f0 x2.f1 x2.f2 x2.f3 x2.f4 x2.f5 x2.f6 x2.f7.f0 x2.f7.f1 x2.f8 x2.f9 a3 a4 = some true
end Go.Proofs.Ytfgalgeloflilaa.P
