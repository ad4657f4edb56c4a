/- Mine: what the law tells, and its contract, turned to the row's form. -/
import Derived.Test.YtcnkmajengephaaPSayJobsMoves
import Derived.Test.YtcnkmajengephaaHR
namespace Go.Proofs.Ytcnkmajengephaa.P
open Go Go.Proofs Go.RowKit Go.Proofs.YtcnkmajengephaaW.PrintWords
set_option maxHeartbeats 1000000 in
theorem annuletlaw31_JobsMoves.walked (a0_0 : Int) (a0_1 : Int) (a0_2 : Int) (a0_3 : Bool) (A0_4 : Option Addr) (c0_4 : Nat) (l0_4 : List (S71)) (A0_5 : Option Addr) (c0_5 : Nat) (l0_5 : List (S71)) (A0_6 : Option Addr) (c0_6 : Nat) (l0_6 : List (S74)) (A0_7 : Option Addr) (c0_7 : Nat) (l0_7 : List (S68)) (A0_8 : Option Addr) (c0_8 : Nat) (l0_8 : List (S78)) (A0_9 : Option Addr) (c0_9 : Nat) (l0_9 : List (S36)) (A0_10 : Option Addr) (c0_10 : Nat) (l0_10 : List (S51)) (a0_11 : Int) (a0_12 : Int) (a0_13 : Int) (a1_0 : Int) (a1_1 : Int) (a1_2 : Int) (a1_3 : ByteArray) (a1_4 : ByteArray) (a1_5 : Int) (a1_6 : Int) (a1_7 : Int) (a1_8 : Int) (a1_9 : Int) (a1_10 : Bool) (a1_11 : Int) (a1_12 : Int) (a1_13 : Int) (a2 : Bool) (a3 : ByteArray) (a4 : Int) (r : Bool) (w : World) (hr0_4 : Kd.C k71 w A0_4 l0_4.length l0_4) (hc0_4 : l0_4.length ≤ c0_4) (hr0_5 : Kd.C k71 w A0_5 l0_5.length l0_5) (hc0_5 : l0_5.length ≤ c0_5) (hr0_6 : Kd.C k74 w A0_6 l0_6.length l0_6) (hc0_6 : l0_6.length ≤ c0_6) (hr0_7 : Kd.C k68 w A0_7 l0_7.length l0_7) (hc0_7 : l0_7.length ≤ c0_7) (hr0_8 : Kd.C k78 w A0_8 l0_8.length l0_8) (hc0_8 : l0_8.length ≤ c0_8) (hr0_9 : Kd.C k36 w A0_9 l0_9.length l0_9) (hc0_9 : l0_9.length ≤ c0_9) (hr0_10 : Kd.C k51 w A0_10 l0_10.length l0_10) (hc0_10 : l0_10.length ≤ c0_10) (h : annuletlaw31_JobsMoves.f a0_0 a0_1 a0_2 a0_3 l0_4 l0_5 l0_6 l0_7 l0_8 l0_9 l0_10 a0_11 a0_12 a0_13 a1_0 a1_1 a1_2 a1_3 a1_4 a1_5 a1_6 a1_7 a1_8 a1_9 a1_10 a1_11 a1_12 a1_13 a2 a3 a4 = some r) :
    Calls Try.prog 3 #[.agg #[.int .u64 a0_0, .int .u16 a0_1, .int .i64 a0_2, .bool a0_3, .slice A0_4 l0_4.length c0_4, .slice A0_5 l0_5.length c0_5, .slice A0_6 l0_6.length c0_6, .slice A0_7 l0_7.length c0_7, .slice A0_8 l0_8.length c0_8, .slice A0_9 l0_9.length c0_9, .slice A0_10 l0_10.length c0_10, .int .u32 a0_11, .int .i64 a0_12, .int .i64 a0_13], .agg #[.int .i64 a1_0, .int .i64 a1_1, .int .i64 a1_2, .string a1_3, .string a1_4, .int .u64 a1_5, .int .u64 a1_6, .int .u16 a1_7, .int .u64 a1_8, .int .u16 a1_9, .bool a1_10, .int .i64 a1_11, .int .i64 a1_12, .int .i64 a1_13], .bool a2, .string a3, .int .i64 a4] w fun e w' => e = .returned (.bool r) ∧ Below w.heap.size w w' := by
  unfold annuletlaw31_JobsMoves.f at h
  split at h
  · rename_i hall
    obtain rfl : true = r := Option.some.inj h
    simp only [Bool.and_eq_true, decide_eq_true_eq] at hall
    obtain ⟨⟨⟨⟨⟨⟨b4, b5⟩, b6⟩, b7⟩, b8⟩, b9⟩, b10⟩ := hall
    exact H.moves_calls ⟨a0_0, a0_1, a0_2, a0_3, l0_4, l0_5, l0_6, l0_7, l0_8, l0_9, l0_10, a0_11, a0_12, a0_13⟩ ⟨A0_4, A0_5, A0_6, A0_7, A0_8, A0_9, A0_10, c0_4, c0_5, c0_6, c0_7, c0_8, c0_9, c0_10⟩ ⟨a1_0, a1_1, a1_2, a1_3, a1_4, a1_5, ⟨a1_6, a1_7⟩, ⟨a1_8, a1_9⟩, a1_10, a1_11, a1_12, a1_13⟩ a2 a3 a4 w ⟨hr0_4, hc0_4, hr0_5, hc0_5, hr0_6, hc0_6, hr0_7, hc0_7, hr0_8, hc0_8, hr0_9, hc0_9, hr0_10, hc0_10⟩ ⟨b4, b5, b6, b7, b8, b9, b10⟩
  · simp at h
end Go.Proofs.Ytcnkmajengephaa.P
namespace Go.Proofs.Ytcnkmajengephaa.Pure
open Go Go.Proofs Go.RowKit Go.Proofs.Ytcnkmajengephaa.P Go.Proofs.YtcnkmajengephaaW.PrintWords Go.Proofs.YtcnkmajengephaaW.PrintLast
theorem JobsMoves : annuletlaw31_JobsMoves.Pure := by
  intro x0 x1 a2 a3 a4 h0 _ _ _
  obtain ⟨_, _, _, g4, g5, g6, g7, g8, g9, g10, _⟩ := h0
  unfold annuletlaw31_JobsMoves.f
  refine if_pos ?_
  simp only [Bool.and_eq_true, decide_eq_true_eq]
  exact ⟨⟨⟨⟨⟨⟨g4.1, g5.1⟩, g6.1⟩, g7.1⟩, g8.1⟩, g9.1⟩, g10.1⟩
end Go.Proofs.Ytcnkmajengephaa.Pure
