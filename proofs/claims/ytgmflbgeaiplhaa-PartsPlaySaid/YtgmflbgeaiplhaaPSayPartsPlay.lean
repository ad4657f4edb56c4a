-- Printed by fprint.py (a program of this session's, over the kit's print), for this claim.
import Derived.Test.YtgmflbgeaiplhaaPx1
import Derived.Test.YtgmflbgeaiplhaaPOpens
namespace Go.Proofs.Ytgmflbgeaiplhaa.P
open Go.RowKit Go.Proofs.YtgmflbgeaiplhaaW.PrintWords
/-- THE ONE PURE STATEMENT of annuletlaw21_PartsPlay. -/
def annuletlaw21_PartsPlay.Pure : Prop := ∀ (a0 : Int) (l1 : List (S35)), (Lit.int .i64 a0).wf = true → (l1.length * 32 ≤ 140737488351232 ∧ ∀ y ∈ l1, wf35 y) → ∃ k, annuletlaw21_PartsPlay.f k a0 l1 = some true
end Go.Proofs.Ytgmflbgeaiplhaa.P
