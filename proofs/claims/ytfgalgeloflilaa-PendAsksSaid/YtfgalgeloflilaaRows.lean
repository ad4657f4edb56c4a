/-
  No cell of these rows narrows 'for every input' (looked for: loops, veiled, ifaces, maps, wideKeys, modest, calm, conditions, laid).
  DERIVED. THE GIVEN ROWS OF THIS SEAT. 3 by the template 'for every input the law returns true; each argument reads behind the call as it read before'; 0 by the template 'total and deterministic' (their statements: YtfgalgeloflilaaTotals.lean).
  GIVEN WITH THE SEED: the statements are not yours to turn. If you find one false, say at which input.
  Laid BY PROGRAM, IN A SANDBOX (cutbox-rows.mjs): the forced cells as the released guide's own fill.sh prints them over the translation 40e88ecf06fd94bc… (all of the seat's roots in one cut). By AI agents, Wed Nov 11 2026. No macro, syntax, notation, axiom, sorry.
-/
import Derived.Test.YtfgalgeloflilaaChecked
import GoSem.Claim
import GoSem.ClaimJoined
import GoSem.ClaimMapViews
import Derived.JoinedTies
import Derived.KernelRfl
namespace Go.Proofs.Ytfgalgeloflilaa
/- THE CELL 'sum', in the pinned program and in every row, IS THE sha256 OF THE DUMP (.gsa) THAT YtfgalgeloflilaaProg.lean LOADS. Nothing in Lean hashes anything: it is a label: what it is worth is what the hold of that sum in a sandbox is worth. -/
noncomputable def Try.pinned : Pinned := { name := "ytfgalgeloflilaa", sum := "40e88ecf06fd94bc9bb9ea6bb1df0d80d6be61a89a855486ccb71dbcfeec77d1", checked := Try.checked }
namespace Rows
def none {H : Type} : Left H := { results := [], args := [] }

/-- 'annuletlaw30.PendAsks': WHATEVER THE INPUT: true; the input reads as it did. -/
def pendAsksSpec : ChangeSpec := { name := "pendAsks", fn := fun _ => fun
  | [d1, d2, d3, d4, d5] => { results := [.lit (.bool true)], args := [d1, d2, d3, d4, d5] }
  | _ => none }
def pendAsksRow : OpenClaim := { program := "ytfgalgeloflilaa", sum := "40e88ecf06fd94bc9bb9ea6bb1df0d80d6be61a89a855486ccb71dbcfeec77d1", func := "annulet/annuletlaw30.PendAsks", spec := "pendAsks", unfollowed := true, recurses := true, apart := false }
def PendAsksSaid : Prop := pendAsksRow.holds Try.pinned (OpenSpec.ofChange pendAsksSpec)

/-- ITS FALSE NEIGHBOUR: 'it returns false'. Refute it at one input. -/
def pendAsksWrong : ChangeSpec := { name := "pendAsks", fn := fun _ => fun
  | [d1, d2, d3, d4, d5] => { results := [.lit (.bool false)], args := [d1, d2, d3, d4, d5] }
  | _ => none }
def PendAsksWrongFalsely : Prop := pendAsksRow.holds Try.pinned (OpenSpec.ofChange pendAsksWrong)

/-- 'annuletlaw30.PendTakes': WHATEVER THE INPUT: true; the input reads as it did. -/
def pendTakesSpec : ChangeSpec := { name := "pendTakes", fn := fun _ => fun
  | [d1, d2, d3, d4, d5, d6] => { results := [.lit (.bool true)], args := [d1, d2, d3, d4, d5, d6] }
  | _ => none }
def pendTakesRow : OpenClaim := { program := "ytfgalgeloflilaa", sum := "40e88ecf06fd94bc9bb9ea6bb1df0d80d6be61a89a855486ccb71dbcfeec77d1", func := "annulet/annuletlaw30.PendTakes", spec := "pendTakes", unfollowed := true, recurses := true, apart := false }
def PendTakesSaid : Prop := pendTakesRow.holds Try.pinned (OpenSpec.ofChange pendTakesSpec)

/-- ITS FALSE NEIGHBOUR: 'it returns false'. Refute it at one input. -/
def pendTakesWrong : ChangeSpec := { name := "pendTakes", fn := fun _ => fun
  | [d1, d2, d3, d4, d5, d6] => { results := [.lit (.bool false)], args := [d1, d2, d3, d4, d5, d6] }
  | _ => none }
def PendTakesWrongFalsely : Prop := pendTakesRow.holds Try.pinned (OpenSpec.ofChange pendTakesWrong)

/-- 'annuletlaw30.PendWaits': WHATEVER THE INPUT: true; the input reads as it did. -/
def pendWaitsSpec : ChangeSpec := { name := "pendWaits", fn := fun _ => fun
  | [d1, d2, d3, d4] => { results := [.lit (.bool true)], args := [d1, d2, d3, d4] }
  | _ => none }
def pendWaitsRow : OpenClaim := { program := "ytfgalgeloflilaa", sum := "40e88ecf06fd94bc9bb9ea6bb1df0d80d6be61a89a855486ccb71dbcfeec77d1", func := "annulet/annuletlaw30.PendWaits", spec := "pendWaits", unfollowed := true, recurses := true, apart := false }
def PendWaitsSaid : Prop := pendWaitsRow.holds Try.pinned (OpenSpec.ofChange pendWaitsSpec)

/-- ITS FALSE NEIGHBOUR: 'it returns false'. Refute it at one input. -/
def pendWaitsWrong : ChangeSpec := { name := "pendWaits", fn := fun _ => fun
  | [d1, d2, d3, d4] => { results := [.lit (.bool false)], args := [d1, d2, d3, d4] }
  | _ => none }
def PendWaitsWrongFalsely : Prop := pendWaitsRow.holds Try.pinned (OpenSpec.ofChange pendWaitsWrong)

/- THE SECOND FORM. 'bulk': how many values and letters a reading holds, each counted each time it is reached (what is shared counts as often as it is met; a slice's spare places count too). A statement '..UptoSaid' is the law's where the arguments, and the package variables that the reading takes, are together of bulk at most 1048576: NARROWER than '..Said'. Prove '..Said' where nothing that the law and all that it calls make is longer than what came in: it says more and counts as full. Else prove '..UptoSaid'. A law counts once. -/
mutual
def uptoBulk {H : Type} : DataW H → Nat
  | .lit (.string bytes) => bytes.length + 1
  | .lit _ => 1
  | .nil => 1
  | .ptr d => uptoBulk d + 1
  | .slice elems spare => uptoBulkAll elems + uptoBulkAll spare + 1
  | .agg parts => uptoBulkAll parts + 1
  | .iface _ d => uptoBulk d + 1
  | .map entries => uptoBulkEntries entries + 1
  | .held _ => 1
def uptoBulkAll {H : Type} : List (DataW H) → Nat
  | [] => 0
  | d :: r => uptoBulk d + uptoBulkAll r
def uptoBulkEntries {H : Type} : List (Lit × DataW H) → Nat
  | [] => 0
  | x :: r => uptoBulkEntry x + uptoBulkEntries r
def uptoBulkEntry {H : Type} : Lit × DataW H → Nat
  | (.string bytes, d) => bytes.length + uptoBulk d + 1
  | (_, d) => uptoBulk d + 1
 end
def uptoSmall : (H : Type) → List (DataW H) → Bool := fun _ ds => decide (uptoBulkAll ds ≤ 1048576)
def OpenSpec.upto (s : _root_.Go.ChangeSpec) : _root_.Go.OpenSpec := { _root_.Go.OpenSpec.ofChange s with cond := some uptoSmall }

/-- 'annuletlaw30.PendAsks', WHERE WHAT IT READS IS OF BULK AT MOST 1048576: true; the input reads as it did. -/
def pendAsksUptoRow : OpenClaim := { program := "ytfgalgeloflilaa", sum := "40e88ecf06fd94bc9bb9ea6bb1df0d80d6be61a89a855486ccb71dbcfeec77d1", func := "annulet/annuletlaw30.PendAsks", spec := "pendAsks", unfollowed := true, recurses := true, apart := false, narrowed := true }
def PendAsksUptoSaid : Prop := pendAsksUptoRow.holds Try.pinned (OpenSpec.upto pendAsksSpec)

/-- 'annuletlaw30.PendTakes', WHERE WHAT IT READS IS OF BULK AT MOST 1048576: true; the input reads as it did. -/
def pendTakesUptoRow : OpenClaim := { program := "ytfgalgeloflilaa", sum := "40e88ecf06fd94bc9bb9ea6bb1df0d80d6be61a89a855486ccb71dbcfeec77d1", func := "annulet/annuletlaw30.PendTakes", spec := "pendTakes", unfollowed := true, recurses := true, apart := false, narrowed := true }
def PendTakesUptoSaid : Prop := pendTakesUptoRow.holds Try.pinned (OpenSpec.upto pendTakesSpec)

/-- 'annuletlaw30.PendWaits', WHERE WHAT IT READS IS OF BULK AT MOST 1048576: true; the input reads as it did. -/
def pendWaitsUptoRow : OpenClaim := { program := "ytfgalgeloflilaa", sum := "40e88ecf06fd94bc9bb9ea6bb1df0d80d6be61a89a855486ccb71dbcfeec77d1", func := "annulet/annuletlaw30.PendWaits", spec := "pendWaits", unfollowed := true, recurses := true, apart := false, narrowed := true }
def PendWaitsUptoSaid : Prop := pendWaitsUptoRow.holds Try.pinned (OpenSpec.upto pendWaitsSpec)

end Rows
end Go.Proofs.Ytfgalgeloflilaa
