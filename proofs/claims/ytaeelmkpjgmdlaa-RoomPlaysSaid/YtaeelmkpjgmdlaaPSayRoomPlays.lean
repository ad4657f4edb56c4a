-- Printed by fprint.py (a program of this session's, over the kit's print), for this claim.
import Derived.Test.YtaeelmkpjgmdlaaPx1
import Derived.Test.YtaeelmkpjgmdlaaPOpens
namespace Go.Proofs.Ytaeelmkpjgmdlaa.P
open Go.RowKit Go.Proofs.YtaeelmkpjgmdlaaW.PrintWords
/-- THE ONE PURE STATEMENT of annuletlaw22_RoomPlays. -/
def annuletlaw22_RoomPlays.Pure : Prop := ∀ (x0 : S23) (l1 : List (S40)), wf23 x0 → (l1.length * 48 ≤ 140737488351232 ∧ ∀ y ∈ l1, wf40 y) → ∃ k, annuletlaw22_RoomPlays.f k x0.f0 x0.f1 x0.f2 l1 = some true
end Go.Proofs.Ytaeelmkpjgmdlaa.P
