-- Printed by fprint.py (a program of this session's, over the kit's print), for this claim.
import Derived.Test.YtaeelmkpjgmdlaaPx2
import Derived.Test.YtaeelmkpjgmdlaaPOpens
namespace Go.Proofs.Ytaeelmkpjgmdlaa.P
open Go.RowKit Go.Proofs.YtaeelmkpjgmdlaaW.PrintWords
/-- THE ONE PURE STATEMENT of annuletlaw23_AsmWhole. -/
def annuletlaw23_AsmWhole.Pure : Prop := ∀ (a0 : Int) (x1 : S38) (l2 : List Int), (Lit.int .i64 a0).wf = true → wf38 x1 → (l2.length * 8 ≤ 140737488351232 ∧ ∀ y ∈ l2, (Lit.int .i64 y).wf = true) → ∃ k, annuletlaw23_AsmWhole.f k a0 x1.f0 x1.f1 x1.f2 x1.f3 x1.f4 x1.f5 x1.f6 l2 = some true
end Go.Proofs.Ytaeelmkpjgmdlaa.P
