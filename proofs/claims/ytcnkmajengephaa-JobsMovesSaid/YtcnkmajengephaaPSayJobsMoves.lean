-- Printed by fprint.py (a program of this session's, over the kit's print), for this claim.
import Derived.Test.YtcnkmajengephaaPx16
import Derived.Test.YtcnkmajengephaaPOpens
namespace Go.Proofs.Ytcnkmajengephaa.P
open Go.RowKit Go.Proofs.YtcnkmajengephaaW.PrintWords
/-- THE ONE PURE STATEMENT of annuletlaw31_JobsMoves. -/
def annuletlaw31_JobsMoves.Pure : Prop := ∀ (x0 : S34) (x1 : S36) (a2 : Bool) (a3 : ByteArray) (a4 : Int), wf34 x0 → wf36 x1 → a3.size ≤ 140737488351232 → (Lit.int .i64 a4).wf = true → annuletlaw31_JobsMoves.f x0.f0.f0 x0.f0.f1 x0.f1 x0.f2 x0.f3 x0.f4 x0.f5 x0.f6 x0.f7 x0.f8 x0.f9 x0.f10 x0.f11 x0.f12 x1.f0 x1.f1 x1.f2 x1.f3 x1.f4 x1.f5 x1.f6.f0 x1.f6.f1 x1.f7.f0 x1.f7.f1 x1.f8 x1.f9 x1.f10 x1.f11 a2 a3 a4 = some true
end Go.Proofs.Ytcnkmajengephaa.P
