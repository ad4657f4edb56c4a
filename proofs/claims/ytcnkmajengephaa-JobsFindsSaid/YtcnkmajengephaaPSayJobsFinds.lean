-- Printed by fprint.py (a program of this session's, over the kit's print), for this claim.
import Derived.Test.YtcnkmajengephaaPx16
import Derived.Test.YtcnkmajengephaaPOpens
namespace Go.Proofs.Ytcnkmajengephaa.P
open Go.RowKit Go.Proofs.YtcnkmajengephaaW.PrintWords
/-- THE ONE PURE STATEMENT of annuletlaw31_JobsFinds. -/
def annuletlaw31_JobsFinds.Pure : Prop := ∀ (l0 : List (S36)) (a1 : Int) (a2 : Int), (l0.length * 128 ≤ 140737488351232 ∧ ∀ y ∈ l0, wf36 y) → (Lit.int .i64 a1).wf = true → (Lit.int .i64 a2).wf = true → annuletlaw31_JobsFinds.f l0 a1 a2 = some true
end Go.Proofs.Ytcnkmajengephaa.P
