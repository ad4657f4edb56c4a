/-
  No cell of these rows narrows 'for every input' (looked for: loops, veiled, ifaces, maps, wideKeys, modest, calm, conditions, laid).
  DERIVED. THE GIVEN ROWS OF THIS SEAT. 3 by the template 'for every input the law returns true; each argument reads behind the call as it read before'; 0 by the template 'total and deterministic' (their statements: YtcnkmajengephaaTotals.lean).
  GIVEN WITH THE SEED: the statements are not yours to turn. If you find one false, say at which input.
  Laid BY PROGRAM, IN A SANDBOX (cutbox-rows.mjs): the forced cells as the released guide's own fill.sh prints them over the translation 2f634f125680c5aa… (all of the seat's roots in one cut). By AI agents, Wed Nov 11 2026. No macro, syntax, notation, axiom, sorry.
-/
import Derived.Test.YtcnkmajengephaaChecked
import GoSem.Claim
import GoSem.ClaimJoined
import GoSem.ClaimMapViews
import Derived.JoinedTies
import Derived.KernelRfl
namespace Go.Proofs.Ytcnkmajengephaa
/- THE CELL 'sum', in the pinned program and in every row, IS THE sha256 OF THE DUMP (.gsa) THAT YtcnkmajengephaaProg.lean LOADS. Nothing in Lean hashes anything: it is a label: what it is worth is what the hold of that sum in a sandbox is worth. -/
noncomputable def Try.pinned : Pinned := { name := "ytcnkmajengephaa", sum := "2f634f125680c5aaceae05b36d6d7a9fe4c7cbeb0453890f6ce849057a549f26", checked := Try.checked }
namespace Rows
def none {H : Type} : Left H := { results := [], args := [] }

/-- 'annuletlaw31.JobsMoves': WHATEVER THE INPUT: true; the input reads as it did. -/
def jobsMovesSpec : ChangeSpec := { name := "jobsMoves", fn := fun _ => fun
  | [d1, d2, d3, d4, d5] => { results := [.lit (.bool true)], args := [d1, d2, d3, d4, d5] }
  | _ => none }
def jobsMovesRow : OpenClaim := { program := "ytcnkmajengephaa", sum := "2f634f125680c5aaceae05b36d6d7a9fe4c7cbeb0453890f6ce849057a549f26", func := "annulet/annuletlaw31.JobsMoves", spec := "jobsMoves", unfollowed := true, recurses := true, apart := false }
def JobsMovesSaid : Prop := jobsMovesRow.holds Try.pinned (OpenSpec.ofChange jobsMovesSpec)

/-- ITS FALSE NEIGHBOUR: 'it returns false'. Refute it at one input. -/
def jobsMovesWrong : ChangeSpec := { name := "jobsMoves", fn := fun _ => fun
  | [d1, d2, d3, d4, d5] => { results := [.lit (.bool false)], args := [d1, d2, d3, d4, d5] }
  | _ => none }
def JobsMovesWrongFalsely : Prop := jobsMovesRow.holds Try.pinned (OpenSpec.ofChange jobsMovesWrong)

/-- 'annuletlaw31.JobsFinds': WHATEVER THE INPUT: true; the input reads as it did. -/
def jobsFindsSpec : ChangeSpec := { name := "jobsFinds", fn := fun _ => fun
  | [d1, d2, d3] => { results := [.lit (.bool true)], args := [d1, d2, d3] }
  | _ => none }
def jobsFindsRow : OpenClaim := { program := "ytcnkmajengephaa", sum := "2f634f125680c5aaceae05b36d6d7a9fe4c7cbeb0453890f6ce849057a549f26", func := "annulet/annuletlaw31.JobsFinds", spec := "jobsFinds", unfollowed := true, recurses := true, apart := false }
def JobsFindsSaid : Prop := jobsFindsRow.holds Try.pinned (OpenSpec.ofChange jobsFindsSpec)

/-- ITS FALSE NEIGHBOUR: 'it returns false'. Refute it at one input. -/
def jobsFindsWrong : ChangeSpec := { name := "jobsFinds", fn := fun _ => fun
  | [d1, d2, d3] => { results := [.lit (.bool false)], args := [d1, d2, d3] }
  | _ => none }
def JobsFindsWrongFalsely : Prop := jobsFindsRow.holds Try.pinned (OpenSpec.ofChange jobsFindsWrong)

/-- 'annuletlaw31.JobsEnd': WHATEVER THE INPUT: true; the input reads as it did. -/
def jobsEndSpec : ChangeSpec := { name := "jobsEnd", fn := fun _ => fun
  | [d1, d2, d3] => { results := [.lit (.bool true)], args := [d1, d2, d3] }
  | _ => none }
def jobsEndRow : OpenClaim := { program := "ytcnkmajengephaa", sum := "2f634f125680c5aaceae05b36d6d7a9fe4c7cbeb0453890f6ce849057a549f26", func := "annulet/annuletlaw31.JobsEnd", spec := "jobsEnd", unfollowed := true, recurses := true, apart := false }
def JobsEndSaid : Prop := jobsEndRow.holds Try.pinned (OpenSpec.ofChange jobsEndSpec)

/-- ITS FALSE NEIGHBOUR: 'it returns false'. Refute it at one input. -/
def jobsEndWrong : ChangeSpec := { name := "jobsEnd", fn := fun _ => fun
  | [d1, d2, d3] => { results := [.lit (.bool false)], args := [d1, d2, d3] }
  | _ => none }
def JobsEndWrongFalsely : Prop := jobsEndRow.holds Try.pinned (OpenSpec.ofChange jobsEndWrong)

/- THE SECOND FORM. 'bulk': how many values and letters a reading holds, each counted each time it is reached (what is shared counts as often as it is met; a slice's spare places count too). A statement '..UptoSaid' is the law's where the arguments, and the package variables that the reading takes, are together of bulk at most 1048576: NARROWER than '..Said'. Prove '..Said' where nothing that the law and all that it calls make is longer than what came in: it says more and counts as full. Else prove '..UptoSaid'. A law counts once. -/
mutual
def uptoBulk {H : Type} : DataW H → Nat
  | .lit (.string bytes) => bytes.length + 1
  | .lit _ => 1
  | .nil => 1
  | .ptr d => uptoBulk d + 1
  | .slice elems spare => uptoBulkAll elems + uptoBulkAll spare + 1
  | .agg parts => uptoBulkAll parts + 1
  | .iface _ d => uptoBulk d + 1
  | .map entries => uptoBulkEntries entries + 1
  | .held _ => 1
def uptoBulkAll {H : Type} : List (DataW H) → Nat
  | [] => 0
  | d :: r => uptoBulk d + uptoBulkAll r
def uptoBulkEntries {H : Type} : List (Lit × DataW H) → Nat
  | [] => 0
  | x :: r => uptoBulkEntry x + uptoBulkEntries r
def uptoBulkEntry {H : Type} : Lit × DataW H → Nat
  | (.string bytes, d) => bytes.length + uptoBulk d + 1
  | (_, d) => uptoBulk d + 1
 end
def uptoSmall : (H : Type) → List (DataW H) → Bool := fun _ ds => decide (uptoBulkAll ds ≤ 1048576)
def OpenSpec.upto (s : _root_.Go.ChangeSpec) : _root_.Go.OpenSpec := { _root_.Go.OpenSpec.ofChange s with cond := some uptoSmall }

/-- 'annuletlaw31.JobsMoves', WHERE WHAT IT READS IS OF BULK AT MOST 1048576: true; the input reads as it did. -/
def jobsMovesUptoRow : OpenClaim := { program := "ytcnkmajengephaa", sum := "2f634f125680c5aaceae05b36d6d7a9fe4c7cbeb0453890f6ce849057a549f26", func := "annulet/annuletlaw31.JobsMoves", spec := "jobsMoves", unfollowed := true, recurses := true, apart := false, narrowed := true }
def JobsMovesUptoSaid : Prop := jobsMovesUptoRow.holds Try.pinned (OpenSpec.upto jobsMovesSpec)

/-- 'annuletlaw31.JobsFinds', WHERE WHAT IT READS IS OF BULK AT MOST 1048576: true; the input reads as it did. -/
def jobsFindsUptoRow : OpenClaim := { program := "ytcnkmajengephaa", sum := "2f634f125680c5aaceae05b36d6d7a9fe4c7cbeb0453890f6ce849057a549f26", func := "annulet/annuletlaw31.JobsFinds", spec := "jobsFinds", unfollowed := true, recurses := true, apart := false, narrowed := true }
def JobsFindsUptoSaid : Prop := jobsFindsUptoRow.holds Try.pinned (OpenSpec.upto jobsFindsSpec)

/-- 'annuletlaw31.JobsEnd', WHERE WHAT IT READS IS OF BULK AT MOST 1048576: true; the input reads as it did. -/
def jobsEndUptoRow : OpenClaim := { program := "ytcnkmajengephaa", sum := "2f634f125680c5aaceae05b36d6d7a9fe4c7cbeb0453890f6ce849057a549f26", func := "annulet/annuletlaw31.JobsEnd", spec := "jobsEnd", unfollowed := true, recurses := true, apart := false, narrowed := true }
def JobsEndUptoSaid : Prop := jobsEndUptoRow.holds Try.pinned (OpenSpec.upto jobsEndSpec)

end Rows
end Go.Proofs.Ytcnkmajengephaa
