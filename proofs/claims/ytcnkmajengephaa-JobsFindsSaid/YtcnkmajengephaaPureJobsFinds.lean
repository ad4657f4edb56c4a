/- Mine: what the law JobsFinds tells, and its contract, turned to the row's form. -/
import Derived.Test.YtcnkmajengephaaPSayJobsFinds
import Derived.Test.YtcnkmajengephaaHK
namespace Go.Proofs.Ytcnkmajengephaa.P
open Go Go.Proofs Go.RowKit Go.Proofs.YtcnkmajengephaaW.PrintWords
theorem annuletlaw31_JobsFinds.walked (A0 : Option Addr) (c0 : Nat) (l0 : List S36) (a1 a2 : Int) (r : Bool) (w : World) (hr0 : Kd.C k36 w A0 l0.length l0) (hc0 : l0.length ≤ c0) (h : annuletlaw31_JobsFinds.f l0 a1 a2 = some r) :
    Calls Try.prog 4 #[.slice A0 l0.length c0, .int .i64 a1, .int .i64 a2] w fun e w' => e = .returned (.bool r) ∧ Below w.heap.size w w' := by
  unfold annuletlaw31_JobsFinds.f at h
  split at h
  · obtain rfl : true = r := Option.some.inj h
    exact H.finds_calls A0 c0 l0 a1 a2 w hr0 hc0
  · simp at h
end Go.Proofs.Ytcnkmajengephaa.P
namespace Go.Proofs.Ytcnkmajengephaa.Pure
open Go Go.Proofs Go.RowKit Go.Proofs.Ytcnkmajengephaa.P Go.Proofs.YtcnkmajengephaaW.PrintWords Go.Proofs.YtcnkmajengephaaW.PrintLast
theorem JobsFinds : annuletlaw31_JobsFinds.Pure := by
  intro l0 a1 a2 h0 _ _
  unfold annuletlaw31_JobsFinds.f
  exact if_pos (decide_eq_true h0.1)
end Go.Proofs.Ytcnkmajengephaa.Pure
