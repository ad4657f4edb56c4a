/- It is proved, in plain Lean: a list of peers is the same as itself, says the printed reference function. -/
import Derived.Test.YtnnhmceaoobihaaHopsLaw
import Derived.Test.YtnnhmceaoobihaaPx7
namespace Go.Proofs.Ytnnhmceaoobihaa.HopsLaw
open Go.RowKit Go.Proofs.Ytnnhmceaoobihaa.P Go.Proofs.YtnnhmceaoobihaaW.PrintWords Go.Proofs.YtnnhmceaoobihaaW.PrintLast Go.Proofs.YtnnhmceaoobihaaW.PrintIdx Go.Proofs.YtnnhmceaoobihaaW.PrintSort

/-- The same peers. -/
theorem peers_loop (l : List S26) (hl : l.length < 4398046511104) : ∀ n i, i + n = l.length → annuletref08_Peers.l0 (n + 1) l l (i : Int) = some true := by
  intro n
  induction n with
  | zero =>
    intro i hi
    rw [annuletref08_Peers.l0, if_neg (by omega)]
  | succ n ih =>
    intro i hi
    have hlt : i < l.length := by omega
    rw [annuletref08_Peers.l0, if_pos (by omega), if_pos (by omega), if_pos (by omega), if_neg (by simp), step64 hlt (by omega)]
    exact ih (i + 1) (by omega)
theorem peers_same (l : List S26) (hl : l.length < 4398046511104) (k : Nat) (hk : l.length + 1 ≤ k) : annuletref08_Peers.f k l l = some true := by
  refine up (g := fun k => annuletref08_Peers.f k l l) (fun k => annuletref08_Peers.mono _ _ k) (k := l.length + 1) ?_ k hk
  unfold annuletref08_Peers.f
  rw [if_pos rfl]
  exact peers_loop l hl l.length 0 (by omega)
#print axioms peers_same
end Go.Proofs.Ytnnhmceaoobihaa.HopsLaw
