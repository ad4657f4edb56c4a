/-
  No cell of these rows narrows 'for every input' (looked for: loops, veiled, ifaces, maps, wideKeys, modest, calm, conditions, laid).
  DERIVED. THE GIVEN ROWS OF THIS SEAT. 3 by the template 'for every input the law returns true; each argument reads behind the call as it read before'; 0 by the template 'total and deterministic' (their statements: YtimihoepnkeioaaTotals.lean).
  GIVEN WITH THE SEED: the statements are not yours to turn. If you find one false, say at which input.
  Laid BY PROGRAM, IN A SANDBOX (cutbox-rows.mjs): the forced cells as the released guide's own fill.sh prints them over the translation c2ef8d7cc4c618b0… (all of the seat's roots in one cut). By AI agents, Wed Nov 11 2026. No macro, syntax, notation, axiom, sorry.
-/
import Derived.Test.YtimihoepnkeioaaChecked
import GoSem.Claim
import GoSem.ClaimJoined
import GoSem.ClaimMapViews
import Derived.JoinedTies
import Derived.KernelRfl
namespace Go.Proofs.Ytimihoepnkeioaa
/- THE CELL 'sum', in the pinned program and in every row, IS THE sha256 OF THE DUMP (.gsa) THAT YtimihoepnkeioaaProg.lean LOADS. Nothing in Lean hashes anything: it is a label: what it is worth is what the hold of that sum in a sandbox is worth. -/
noncomputable def Try.pinned : Pinned := { name := "ytimihoepnkeioaa", sum := "c2ef8d7cc4c618b07696425992d393fe8fb682384e2943039263ef59c090699c", checked := Try.checked }
namespace Rows
def none {H : Type} : Left H := { results := [], args := [] }

/-- 'annuletlaw32.RouteSteps': WHATEVER THE INPUT: true; the input reads as it did. -/
def routeStepsSpec : ChangeSpec := { name := "routeSteps", fn := fun _ => fun
  | [d1, d2] => { results := [.lit (.bool true)], args := [d1, d2] }
  | _ => none }
def routeStepsRow : OpenClaim := { program := "ytimihoepnkeioaa", sum := "c2ef8d7cc4c618b07696425992d393fe8fb682384e2943039263ef59c090699c", func := "annulet/annuletlaw32.RouteSteps", spec := "routeSteps", unfollowed := true, recurses := true, apart := false }
def RouteStepsSaid : Prop := routeStepsRow.holds Try.pinned (OpenSpec.ofChange routeStepsSpec)

/-- ITS FALSE NEIGHBOUR: 'it returns false'. Refute it at one input. -/
def routeStepsWrong : ChangeSpec := { name := "routeSteps", fn := fun _ => fun
  | [d1, d2] => { results := [.lit (.bool false)], args := [d1, d2] }
  | _ => none }
def RouteStepsWrongFalsely : Prop := routeStepsRow.holds Try.pinned (OpenSpec.ofChange routeStepsWrong)

/-- 'annuletlaw32.RouteNear': WHATEVER THE INPUT: true; the input reads as it did. -/
def routeNearSpec : ChangeSpec := { name := "routeNear", fn := fun _ => fun
  | [d1, d2] => { results := [.lit (.bool true)], args := [d1, d2] }
  | _ => none }
def routeNearRow : OpenClaim := { program := "ytimihoepnkeioaa", sum := "c2ef8d7cc4c618b07696425992d393fe8fb682384e2943039263ef59c090699c", func := "annulet/annuletlaw32.RouteNear", spec := "routeNear", unfollowed := true, recurses := true, apart := false }
def RouteNearSaid : Prop := routeNearRow.holds Try.pinned (OpenSpec.ofChange routeNearSpec)

/-- ITS FALSE NEIGHBOUR: 'it returns false'. Refute it at one input. -/
def routeNearWrong : ChangeSpec := { name := "routeNear", fn := fun _ => fun
  | [d1, d2] => { results := [.lit (.bool false)], args := [d1, d2] }
  | _ => none }
def RouteNearWrongFalsely : Prop := routeNearRow.holds Try.pinned (OpenSpec.ofChange routeNearWrong)

/-- 'annuletlaw32.RouteTrue': WHATEVER THE INPUT: true; the input reads as it did. -/
def routeTrueSpec : ChangeSpec := { name := "routeTrue", fn := fun _ => fun
  | [d1, d2] => { results := [.lit (.bool true)], args := [d1, d2] }
  | _ => none }
def routeTrueRow : OpenClaim := { program := "ytimihoepnkeioaa", sum := "c2ef8d7cc4c618b07696425992d393fe8fb682384e2943039263ef59c090699c", func := "annulet/annuletlaw32.RouteTrue", spec := "routeTrue", unfollowed := true, recurses := true, apart := false }
def RouteTrueSaid : Prop := routeTrueRow.holds Try.pinned (OpenSpec.ofChange routeTrueSpec)

/-- ITS FALSE NEIGHBOUR: 'it returns false'. Refute it at one input. -/
def routeTrueWrong : ChangeSpec := { name := "routeTrue", fn := fun _ => fun
  | [d1, d2] => { results := [.lit (.bool false)], args := [d1, d2] }
  | _ => none }
def RouteTrueWrongFalsely : Prop := routeTrueRow.holds Try.pinned (OpenSpec.ofChange routeTrueWrong)

/- THE SECOND FORM. 'bulk': how many values and letters a reading holds, each counted each time it is reached (what is shared counts as often as it is met; a slice's spare places count too). A statement '..UptoSaid' is the law's where the arguments, and the package variables that the reading takes, are together of bulk at most 1048576: NARROWER than '..Said'. Prove '..Said' where nothing that the law and all that it calls make is longer than what came in: it says more and counts as full. Else prove '..UptoSaid'. A law counts once. -/
mutual
def uptoBulk {H : Type} : DataW H → Nat
  | .lit (.string bytes) => bytes.length + 1
  | .lit _ => 1
  | .nil => 1
  | .ptr d => uptoBulk d + 1
  | .slice elems spare => uptoBulkAll elems + uptoBulkAll spare + 1
  | .agg parts => uptoBulkAll parts + 1
  | .iface _ d => uptoBulk d + 1
  | .map entries => uptoBulkEntries entries + 1
  | .held _ => 1
def uptoBulkAll {H : Type} : List (DataW H) → Nat
  | [] => 0
  | d :: r => uptoBulk d + uptoBulkAll r
def uptoBulkEntries {H : Type} : List (Lit × DataW H) → Nat
  | [] => 0
  | x :: r => uptoBulkEntry x + uptoBulkEntries r
def uptoBulkEntry {H : Type} : Lit × DataW H → Nat
  | (.string bytes, d) => bytes.length + uptoBulk d + 1
  | (_, d) => uptoBulk d + 1
 end
def uptoSmall : (H : Type) → List (DataW H) → Bool := fun _ ds => decide (uptoBulkAll ds ≤ 1048576)
def OpenSpec.upto (s : _root_.Go.ChangeSpec) : _root_.Go.OpenSpec := { _root_.Go.OpenSpec.ofChange s with cond := some uptoSmall }

/-- 'annuletlaw32.RouteSteps', WHERE WHAT IT READS IS OF BULK AT MOST 1048576: true; the input reads as it did. -/
def routeStepsUptoRow : OpenClaim := { program := "ytimihoepnkeioaa", sum := "c2ef8d7cc4c618b07696425992d393fe8fb682384e2943039263ef59c090699c", func := "annulet/annuletlaw32.RouteSteps", spec := "routeSteps", unfollowed := true, recurses := true, apart := false, narrowed := true }
def RouteStepsUptoSaid : Prop := routeStepsUptoRow.holds Try.pinned (OpenSpec.upto routeStepsSpec)

/-- 'annuletlaw32.RouteNear', WHERE WHAT IT READS IS OF BULK AT MOST 1048576: true; the input reads as it did. -/
def routeNearUptoRow : OpenClaim := { program := "ytimihoepnkeioaa", sum := "c2ef8d7cc4c618b07696425992d393fe8fb682384e2943039263ef59c090699c", func := "annulet/annuletlaw32.RouteNear", spec := "routeNear", unfollowed := true, recurses := true, apart := false, narrowed := true }
def RouteNearUptoSaid : Prop := routeNearUptoRow.holds Try.pinned (OpenSpec.upto routeNearSpec)

/-- 'annuletlaw32.RouteTrue', WHERE WHAT IT READS IS OF BULK AT MOST 1048576: true; the input reads as it did. -/
def routeTrueUptoRow : OpenClaim := { program := "ytimihoepnkeioaa", sum := "c2ef8d7cc4c618b07696425992d393fe8fb682384e2943039263ef59c090699c", func := "annulet/annuletlaw32.RouteTrue", spec := "routeTrue", unfollowed := true, recurses := true, apart := false, narrowed := true }
def RouteTrueUptoSaid : Prop := routeTrueUptoRow.holds Try.pinned (OpenSpec.upto routeTrueSpec)

end Rows
end Go.Proofs.Ytimihoepnkeioaa
