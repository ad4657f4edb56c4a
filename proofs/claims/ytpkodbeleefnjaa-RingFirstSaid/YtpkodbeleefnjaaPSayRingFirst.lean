-- Printed by fprint.py (a program of this session's, over the kit's print), for this claim.
import Derived.Test.YtpkodbeleefnjaaPx3
import Derived.Test.YtpkodbeleefnjaaPOpens
namespace Go.Proofs.Ytpkodbeleefnjaa.P
open Go.RowKit Go.Proofs.YtpkodbeleefnjaaW.PrintWords
/-- THE ONE PURE STATEMENT of annuletlaw03_RingFirst. -/
def annuletlaw03_RingFirst.Pure : Prop := ∀ (a0 : Int) (l1 : List Int), (Lit.int .u64 a0).wf = true → (l1.length * 8 ≤ 140737488351232 ∧ ∀ y ∈ l1, (Lit.int .u64 y).wf = true) → ∃ k, annuletlaw03_RingFirst.f k a0 l1 = some true
end Go.Proofs.Ytpkodbeleefnjaa.P
