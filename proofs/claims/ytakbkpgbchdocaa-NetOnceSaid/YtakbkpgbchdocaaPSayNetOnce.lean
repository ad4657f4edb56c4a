-- Printed by fprint.py (a program of this session's, over the kit's print), for this claim.
import Derived.Test.YtakbkpgbchdocaaPx1
import Derived.Test.YtakbkpgbchdocaaPOpens
namespace Go.Proofs.Ytakbkpgbchdocaa.P
open Go.RowKit Go.Proofs.YtakbkpgbchdocaaW.PrintWords
/-- THE ONE PURE STATEMENT of annuletlaw39_NetOnce. -/
def annuletlaw39_NetOnce.Pure : Prop := ∀ (l0 : List (S26)) (a1 : Int) (a2 : Int) (a3 : Int), (l0.length * 40 ≤ 140737488351232 ∧ ∀ y ∈ l0, wf26 y) → (Lit.int .i64 a1).wf = true → (Lit.int .i64 a2).wf = true → (Lit.int .u32 a3).wf = true → ∃ k, annuletlaw39_NetOnce.f k l0 a1 a2 a3 = some true
end Go.Proofs.Ytakbkpgbchdocaa.P
