-- Printed by fprint.py (a program of this session's, over the kit's print), for this claim.
import Derived.Test.YtgmflbgeaiplhaaPx1
import Derived.Test.YtgmflbgeaiplhaaPOpens
namespace Go.Proofs.Ytgmflbgeaiplhaa.P
open Go.RowKit Go.Proofs.YtgmflbgeaiplhaaW.PrintWords
/-- THE ONE PURE STATEMENT of annuletlaw21_PartsOrder. -/
def annuletlaw21_PartsOrder.Pure : Prop := ∀ (l0 : List (List Int)), (l0.length * 24 ≤ 140737488351232 ∧ ∀ y ∈ l0, (y.length * 1 ≤ 140737488351232 ∧ ∀ y' ∈ y, (Lit.int .u8 y').wf = true)) → annuletlaw21_PartsOrder.f l0 = some true
end Go.Proofs.Ytgmflbgeaiplhaa.P
