-- Printed by fprint.py (a program of this session's, over the kit's print), for this claim.
import Derived.Test.YtcnkmajengephaaPx16
import Derived.Test.YtcnkmajengephaaPOpens
namespace Go.Proofs.Ytcnkmajengephaa.P
open Go.RowKit Go.Proofs.YtcnkmajengephaaW.PrintWords
/-- THE ONE PURE STATEMENT of annuletlaw31_JobsEnd. -/
def annuletlaw31_JobsEnd.Pure : Prop := ∀ (x0 : S34) (a1 : Int) (a2 : ByteArray), wf34 x0 → (Lit.int .i64 a1).wf = true → a2.size ≤ 140737488351232 → annuletlaw31_JobsEnd.f x0.f0.f0 x0.f0.f1 x0.f1 x0.f2 x0.f3 x0.f4 x0.f5 x0.f6 x0.f7 x0.f8 x0.f9 x0.f10 x0.f11 x0.f12 a1 a2 = some true
end Go.Proofs.Ytcnkmajengephaa.P
