-- Printed by fprint.py (a program of this session's, over the kit's print), for this claim.
import Derived.Test.YtnnhmceaoobihaaPx9
import Derived.Test.YtnnhmceaoobihaaPOpens
namespace Go.Proofs.Ytnnhmceaoobihaa.P
open Go.RowKit Go.Proofs.YtnnhmceaoobihaaW.PrintWords
/-- THE ONE PURE STATEMENT of annuletlaw28_FingsHops. -/
def annuletlaw28_FingsHops.Pure : Prop := ∀ (x0 : S26) (l1 : List (S43)) (l2 : List (S45)) (a3 : Int) (a4 : Int), wf26 x0 → (l1.length * 24 ≤ 140737488351232 ∧ ∀ y ∈ l1, wf43 y) → (l2.length * 24 ≤ 140737488351232 ∧ ∀ y ∈ l2, wf45 y) → (Lit.int .u64 a3).wf = true → (Lit.int .i64 a4).wf = true → ∃ k, annuletlaw28_FingsHops.f k x0.f0 x0.f1 l1 l2 a3 a4 = some true
end Go.Proofs.Ytnnhmceaoobihaa.P
