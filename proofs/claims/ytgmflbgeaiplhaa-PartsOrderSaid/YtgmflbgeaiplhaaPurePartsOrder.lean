/- Mine: what the law tells, and its contract, turned to the row's form. -/
import Derived.Test.YtgmflbgeaiplhaaPSayPartsOrder
import Derived.Test.YtgmflbgeaiplhaaHJ
namespace Go.Proofs.Ytgmflbgeaiplhaa.P
open Go Go.Proofs Go.RowKit Go.Proofs.YtgmflbgeaiplhaaW.PrintWords
theorem annuletlaw21_PartsOrder.walked (A0 : Option Addr) (c0 : Nat) (l0 : List (List Int)) (r : Bool) (w : World) (hr0 : Kd.C (Kd.slice 5 (Kd.int .u8)) w A0 l0.length l0) (hc0 : l0.length ≤ c0) (h : annuletlaw21_PartsOrder.f l0 = some r) :
    Calls Try.prog 4 #[.slice A0 l0.length c0] w fun e w' => e = .returned (.bool r) ∧ Below w.heap.size w w' := by
  unfold annuletlaw21_PartsOrder.f at h
  split at h
  · rename_i hall
    obtain rfl : true = r := Option.some.inj h
    exact H.order_calls A0 c0 l0 w hr0 hc0 (fun x hx => of_decide_eq_true (List.all_eq_true.1 hall x hx))
  · simp at h
end Go.Proofs.Ytgmflbgeaiplhaa.P
namespace Go.Proofs.Ytgmflbgeaiplhaa.Pure
open Go Go.Proofs Go.RowKit Go.Proofs.Ytgmflbgeaiplhaa.P Go.Proofs.YtgmflbgeaiplhaaW.PrintWords Go.Proofs.YtgmflbgeaiplhaaW.PrintLast
theorem PartsOrder : annuletlaw21_PartsOrder.Pure := by
  intro l0 h0
  unfold annuletlaw21_PartsOrder.f
  rw [if_pos (List.all_eq_true.2 (fun x hx => decide_eq_true (by have := (h0.2 x hx).1; omega)))]
end Go.Proofs.Ytgmflbgeaiplhaa.Pure
