-- Printed by fprint.py (a program of this session's, over the kit's print), for this claim.
import Derived.Test.YtnkgniokppafhaaPx6
import Derived.Test.YtnkgniokppafhaaPOpens
namespace Go.Proofs.Ytnkgniokppafhaa.P
open Go.RowKit Go.Proofs.YtnkgniokppafhaaW.PrintWords
/-- THE ONE PURE STATEMENT of annuletlaw20_SeenOnce. -/
def annuletlaw20_SeenOnce.Pure : Prop := ∀ (l0 : List (S33)), (l0.length * 8 ≤ 140737488351232 ∧ ∀ y ∈ l0, wf33 y) → ∃ k, annuletlaw20_SeenOnce.f k l0 = some true
end Go.Proofs.Ytnkgniokppafhaa.P
