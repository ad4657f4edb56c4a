-- Printed by fprint.py (a program of this session's, over the kit's print), for this claim.
import Derived.Test.YtnkgniokppafhaaQx4
import Derived.Test.YtnkgniokppafhaaQOpens
namespace Go.Proofs.Ytnkgniokppafhaa.Q
open Go.RowKit Go.Proofs.YtnkgniokppafhaaW.PrintWords
/-- THE ONE PURE STATEMENT of annuletlaw20_SeenFresh. -/
def annuletlaw20_SeenFresh.Pure : Prop := ∀ (x0 : S25) (a1 : Int) (a2 : Int), wf25 x0 → (Lit.int .u32 a1).wf = true → (Lit.int .u32 a2).wf = true → ∃ k, annuletlaw20_SeenFresh.f k x0.f0 x0.f1 x0.f2 x0.f3 a1 a2 = some true
end Go.Proofs.Ytnkgniokppafhaa.Q
