/-
  No cell of these rows narrows 'for every input' (looked for: loops, veiled, ifaces, maps, wideKeys, modest, calm, conditions, laid).
  DERIVED. THE GIVEN ROWS OF THIS SEAT. 3 by the template 'for every input the law returns true; each argument reads behind the call as it read before'; 0 by the template 'total and deterministic' (their statements: YtnnhmceaoobihaaTotals.lean).
  GIVEN WITH THE SEED: the statements are not yours to turn. If you find one false, say at which input.
  Laid BY PROGRAM, IN A SANDBOX (cutbox-rows.mjs): the forced cells as the released guide's own fill.sh prints them over the translation 2c8436d8a92da40b… (all of the seat's roots in one cut). By AI agents, Wed Nov 11 2026. No macro, syntax, notation, axiom, sorry.
-/
import Derived.Test.YtnnhmceaoobihaaChecked
import GoSem.Claim
import GoSem.ClaimJoined
import GoSem.ClaimMapViews
import Derived.JoinedTies
import Derived.KernelRfl
namespace Go.Proofs.Ytnnhmceaoobihaa
/- THE CELL 'sum', in the pinned program and in every row, IS THE sha256 OF THE DUMP (.gsa) THAT YtnnhmceaoobihaaProg.lean LOADS. Nothing in Lean hashes anything: it is a label: what it is worth is what the hold of that sum in a sandbox is worth. -/
noncomputable def Try.pinned : Pinned := { name := "ytnnhmceaoobihaa", sum := "2c8436d8a92da40b9e3e6293662e6a2608802c024e8d70dd3ba28025874670d1", checked := Try.checked }
namespace Rows
def none {H : Type} : Left H := { results := [], args := [] }

/-- 'annuletlaw28.FingsMoves': WHATEVER THE INPUT: true; the input reads as it did. -/
def fingsMovesSpec : ChangeSpec := { name := "fingsMoves", fn := fun _ => fun
  | [d1, d2, d3] => { results := [.lit (.bool true)], args := [d1, d2, d3] }
  | _ => none }
def fingsMovesRow : OpenClaim := { program := "ytnnhmceaoobihaa", sum := "2c8436d8a92da40b9e3e6293662e6a2608802c024e8d70dd3ba28025874670d1", func := "annulet/annuletlaw28.FingsMoves", spec := "fingsMoves", inPlace := ["slices.overlaps[annulet/api.Finger]"], unfollowed := true, recurses := true, apart := false }
def FingsMovesSaid : Prop := fingsMovesRow.holds Try.pinned (OpenSpec.ofChange fingsMovesSpec)

/-- ITS FALSE NEIGHBOUR: 'it returns false'. Refute it at one input. -/
def fingsMovesWrong : ChangeSpec := { name := "fingsMoves", fn := fun _ => fun
  | [d1, d2, d3] => { results := [.lit (.bool false)], args := [d1, d2, d3] }
  | _ => none }
def FingsMovesWrongFalsely : Prop := fingsMovesRow.holds Try.pinned (OpenSpec.ofChange fingsMovesWrong)

/-- 'annuletlaw28.FingsHops': WHATEVER THE INPUT: true; the input reads as it did. -/
def fingsHopsSpec : ChangeSpec := { name := "fingsHops", fn := fun _ => fun
  | [d1, d2, d3, d4, d5] => { results := [.lit (.bool true)], args := [d1, d2, d3, d4, d5] }
  | _ => none }
def fingsHopsRow : OpenClaim := { program := "ytnnhmceaoobihaa", sum := "2c8436d8a92da40b9e3e6293662e6a2608802c024e8d70dd3ba28025874670d1", func := "annulet/annuletlaw28.FingsHops", spec := "fingsHops", inPlace := ["slices.overlaps[annulet/api.Finger]"], unfollowed := true, recurses := true, apart := false }
def FingsHopsSaid : Prop := fingsHopsRow.holds Try.pinned (OpenSpec.ofChange fingsHopsSpec)

/-- ITS FALSE NEIGHBOUR: 'it returns false'. Refute it at one input. -/
def fingsHopsWrong : ChangeSpec := { name := "fingsHops", fn := fun _ => fun
  | [d1, d2, d3, d4, d5] => { results := [.lit (.bool false)], args := [d1, d2, d3, d4, d5] }
  | _ => none }
def FingsHopsWrongFalsely : Prop := fingsHopsRow.holds Try.pinned (OpenSpec.ofChange fingsHopsWrong)

/-- 'annuletlaw28.FingsNear': WHATEVER THE INPUT: true; the input reads as it did. -/
def fingsNearSpec : ChangeSpec := { name := "fingsNear", fn := fun _ => fun
  | [d1, d2, d3, d4] => { results := [.lit (.bool true)], args := [d1, d2, d3, d4] }
  | _ => none }
def fingsNearRow : OpenClaim := { program := "ytnnhmceaoobihaa", sum := "2c8436d8a92da40b9e3e6293662e6a2608802c024e8d70dd3ba28025874670d1", func := "annulet/annuletlaw28.FingsNear", spec := "fingsNear", inPlace := ["slices.overlaps[annulet/api.Finger]"], unfollowed := true, recurses := true, apart := false }
def FingsNearSaid : Prop := fingsNearRow.holds Try.pinned (OpenSpec.ofChange fingsNearSpec)

/-- ITS FALSE NEIGHBOUR: 'it returns false'. Refute it at one input. -/
def fingsNearWrong : ChangeSpec := { name := "fingsNear", fn := fun _ => fun
  | [d1, d2, d3, d4] => { results := [.lit (.bool false)], args := [d1, d2, d3, d4] }
  | _ => none }
def FingsNearWrongFalsely : Prop := fingsNearRow.holds Try.pinned (OpenSpec.ofChange fingsNearWrong)

/- THE SECOND FORM. 'bulk': how many values and letters a reading holds, each counted each time it is reached (what is shared counts as often as it is met; a slice's spare places count too). A statement '..UptoSaid' is the law's where the arguments, and the package variables that the reading takes, are together of bulk at most 1048576: NARROWER than '..Said'. Prove '..Said' where nothing that the law and all that it calls make is longer than what came in: it says more and counts as full. Else prove '..UptoSaid'. A law counts once. -/
mutual
def uptoBulk {H : Type} : DataW H → Nat
  | .lit (.string bytes) => bytes.length + 1
  | .lit _ => 1
  | .nil => 1
  | .ptr d => uptoBulk d + 1
  | .slice elems spare => uptoBulkAll elems + uptoBulkAll spare + 1
  | .agg parts => uptoBulkAll parts + 1
  | .iface _ d => uptoBulk d + 1
  | .map entries => uptoBulkEntries entries + 1
  | .held _ => 1
def uptoBulkAll {H : Type} : List (DataW H) → Nat
  | [] => 0
  | d :: r => uptoBulk d + uptoBulkAll r
def uptoBulkEntries {H : Type} : List (Lit × DataW H) → Nat
  | [] => 0
  | x :: r => uptoBulkEntry x + uptoBulkEntries r
def uptoBulkEntry {H : Type} : Lit × DataW H → Nat
  | (.string bytes, d) => bytes.length + uptoBulk d + 1
  | (_, d) => uptoBulk d + 1
 end
def uptoSmall : (H : Type) → List (DataW H) → Bool := fun _ ds => decide (uptoBulkAll ds ≤ 1048576)
def OpenSpec.upto (s : _root_.Go.ChangeSpec) : _root_.Go.OpenSpec := { _root_.Go.OpenSpec.ofChange s with cond := some uptoSmall }

/-- 'annuletlaw28.FingsMoves', WHERE WHAT IT READS IS OF BULK AT MOST 1048576: true; the input reads as it did. -/
def fingsMovesUptoRow : OpenClaim := { program := "ytnnhmceaoobihaa", sum := "2c8436d8a92da40b9e3e6293662e6a2608802c024e8d70dd3ba28025874670d1", func := "annulet/annuletlaw28.FingsMoves", spec := "fingsMoves", inPlace := ["slices.overlaps[annulet/api.Finger]"], unfollowed := true, recurses := true, apart := false, narrowed := true }
def FingsMovesUptoSaid : Prop := fingsMovesUptoRow.holds Try.pinned (OpenSpec.upto fingsMovesSpec)

/-- 'annuletlaw28.FingsHops', WHERE WHAT IT READS IS OF BULK AT MOST 1048576: true; the input reads as it did. -/
def fingsHopsUptoRow : OpenClaim := { program := "ytnnhmceaoobihaa", sum := "2c8436d8a92da40b9e3e6293662e6a2608802c024e8d70dd3ba28025874670d1", func := "annulet/annuletlaw28.FingsHops", spec := "fingsHops", inPlace := ["slices.overlaps[annulet/api.Finger]"], unfollowed := true, recurses := true, apart := false, narrowed := true }
def FingsHopsUptoSaid : Prop := fingsHopsUptoRow.holds Try.pinned (OpenSpec.upto fingsHopsSpec)

/-- 'annuletlaw28.FingsNear', WHERE WHAT IT READS IS OF BULK AT MOST 1048576: true; the input reads as it did. -/
def fingsNearUptoRow : OpenClaim := { program := "ytnnhmceaoobihaa", sum := "2c8436d8a92da40b9e3e6293662e6a2608802c024e8d70dd3ba28025874670d1", func := "annulet/annuletlaw28.FingsNear", spec := "fingsNear", inPlace := ["slices.overlaps[annulet/api.Finger]"], unfollowed := true, recurses := true, apart := false, narrowed := true }
def FingsNearUptoSaid : Prop := fingsNearUptoRow.holds Try.pinned (OpenSpec.upto fingsNearSpec)

end Rows
end Go.Proofs.Ytnnhmceaoobihaa
