-- Printed by fprint.py (a program of this session's, over the kit's print), for this claim.
import Derived.Test.YtnnhmceaoobihaaPx7
import Derived.Test.YtnnhmceaoobihaaPOpens
namespace Go.Proofs.Ytnnhmceaoobihaa.P
open Go.RowKit Go.Proofs.YtnnhmceaoobihaaW.PrintWords
/-- THE ONE PURE STATEMENT of annuletlaw28_FingsMoves. -/
def annuletlaw28_FingsMoves.Pure : Prop := ∀ (l0 : List (S45)) (a1 : Int) (x2 : S26), (l0.length * 24 ≤ 140737488351232 ∧ ∀ y ∈ l0, wf45 y) → (Lit.int .i64 a1).wf = true → wf26 x2 → ∃ k, annuletlaw28_FingsMoves.f k l0 a1 x2.f0 x2.f1 = some true
end Go.Proofs.Ytnnhmceaoobihaa.P
