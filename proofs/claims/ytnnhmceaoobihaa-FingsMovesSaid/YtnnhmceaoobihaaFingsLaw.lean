/- It is proved, in plain Lean: the example of chapter 28 holds of what the walks show. -/
import Derived.Test.YtnnhmceaoobihaaHopsLaw
import Derived.Test.YtnnhmceaoobihaaPx5
import Derived.KernelRfl
namespace Go.Proofs.Ytnnhmceaoobihaa.FingsLaw
open Go.RowKit Go.Proofs.Ytnnhmceaoobihaa.P Go.Proofs.YtnnhmceaoobihaaW.PrintWords Go.Proofs.YtnnhmceaoobihaaW.PrintLast Go.Proofs.Ytnnhmceaoobihaa.HopsLaw
set_option linter.unusedVariables false
set_option linter.unusedSimpArgs false

theorem hopsV_eq (me0 me1 : Int) (l1 : List S43) (l2 : List S45) (key most : Int) : hopsV me0 me1 l1 l2 key most = cut most ((hops_out (hops_all l1 l2) me0 me1 key (hops_all l1 l2).length).foldl (fun o p => ins (lt me0) p o) []) := by
  unfold hopsV
  rw [fold_sorted me0 _ (out_apart _ _ _ _)]
theorem hops_two : hopsV 0 0 [⟨⟨4, 1⟩, 0⟩] [⟨2, ⟨4, 1⟩⟩, ⟨3, ⟨8, 2⟩⟩] 9 4 = [⟨8, 2⟩, ⟨4, 1⟩] := by
  rw [hopsV_eq]
  kernel_rfl
theorem awake_10 : annuletlaw28_awake.f 10 = some true := by
  have e1 : fings_Set.f ([] : List S45) 3 8 2 = some [⟨3, ⟨8, 2⟩⟩] := by kernel_rfl
  have e2 : fings_Set.f ([⟨3, ⟨8, 2⟩⟩] : List S45) 2 4 1 = some [⟨2, ⟨4, 1⟩⟩, ⟨3, ⟨8, 2⟩⟩] := by kernel_rfl
  have e3 := fings_hops 0 0 [⟨⟨4, 1⟩, 0⟩] [⟨2, ⟨4, 1⟩⟩, ⟨3, ⟨8, 2⟩⟩] 9 4 (by decide) (by decide)
  rw [hops_two] at e3
  unfold annuletlaw28_awake.f
  rw [e1, Option.bind_some, e2, Option.bind_some, e3, Option.bind_some]
  decide +kernel
theorem awake_k (k : Nat) (h : 10 ≤ k) : annuletlaw28_awake.f k = some true := up (g := fun k => annuletlaw28_awake.f k) annuletlaw28_awake.mono awake_10 k h
#print axioms awake_k
end Go.Proofs.Ytnnhmceaoobihaa.FingsLaw
