/- Mine: what the law tells, and its contract, turned to the row's form. -/
import Derived.Test.YtaeelmkpjgmdlaaPSayAsmWhole
import Derived.Test.YtaeelmkpjgmdlaaHWL
namespace Go.Proofs.Ytaeelmkpjgmdlaa.P
open Go Go.Proofs Go.RowKit Go.Proofs.YtaeelmkpjgmdlaaW.PrintWords
theorem annuletlaw23_AsmWhole.walked (k : Nat) (a0 g0 g1 g2 g3 g4 g5 : Int) (A6 : Option Addr) (c6 : Nat) (g6 : List Int) (A2 : Option Addr) (c2 : Nat) (l2 : List Int) (r : Bool) (w : World) (hr6 : Kd.C (Kd.int .u8) w A6 g6.length g6) (hc6 : g6.length ≤ c6) (hr2 : Kd.C (Kd.int .i64) w A2 l2.length l2) (hc2 : l2.length ≤ c2) (h : annuletlaw23_AsmWhole.f k a0 g0 g1 g2 g3 g4 g5 g6 l2 = some r) :
    Calls Try.prog 5 #[.int .i64 a0, .agg #[.int .u8 g0, .int .u8 g1, .int .u32 g2, .int .u32 g3, .int .u16 g4, .int .u16 g5, .slice A6 g6.length c6], .slice A2 l2.length c2] w fun e w' => e = .returned (.bool r) ∧ Below w.heap.size w w' := by
  unfold annuletlaw23_AsmWhole.f at h
  split at h
  · rename_i hall
    obtain rfl : true = r := Option.some.inj h
    simp only [Bool.and_eq_true, List.all_eq_true] at hall
    exact H.whole_law a0 g0 g1 g2 g3 g4 g5 A6 c6 g6 A2 c2 l2 w hr6 hc6 hr2 hc2 hall.1 hall.2.1 hall.2.2.1 hall.2.2.2
  · simp at h
end Go.Proofs.Ytaeelmkpjgmdlaa.P
namespace Go.Proofs.Ytaeelmkpjgmdlaa.Pure
open Go Go.Proofs Go.RowKit Go.Proofs.Ytaeelmkpjgmdlaa.P Go.Proofs.YtaeelmkpjgmdlaaW.PrintWords Go.Proofs.YtaeelmkpjgmdlaaW.PrintLast
theorem AsmWhole : annuletlaw23_AsmWhole.Pure := by
  intro a0 x1 l2 _ h1 _
  obtain ⟨_, hv, he, hi, _, _, _, hb⟩ := h1
  refine ⟨0, ?_⟩
  unfold annuletlaw23_AsmWhole.f
  rw [if_pos]
  simp only [Bool.and_eq_true, List.all_eq_true]
  exact ⟨hv, he, hi, hb⟩
end Go.Proofs.Ytaeelmkpjgmdlaa.Pure
