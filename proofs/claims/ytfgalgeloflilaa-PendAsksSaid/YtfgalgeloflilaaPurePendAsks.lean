/- Mine: what the law tells, and its contract, turned to the row's form. -/
import Derived.Test.YtfgalgeloflilaaPSayPendAsks
import Derived.Test.YtfgalgeloflilaaHO
namespace Go.Proofs.Ytfgalgeloflilaa.P
open Go Go.Proofs Go.RowKit Go.Proofs.YtfgalgeloflilaaW.PrintWords
set_option maxHeartbeats 1000000 in
theorem annuletlaw30_PendAsks.walked (a0_0 : Int) (a0_1 : Int) (a0_2 : Int) (a0_3 : Bool) (A0_4 : Option Addr) (c0_4 : Nat) (l0_4 : List (S73)) (A0_5 : Option Addr) (c0_5 : Nat) (l0_5 : List (S73)) (A0_6 : Option Addr) (c0_6 : Nat) (l0_6 : List (S76)) (A0_7 : Option Addr) (c0_7 : Nat) (l0_7 : List (S48)) (A0_8 : Option Addr) (c0_8 : Nat) (l0_8 : List (S51)) (A0_9 : Option Addr) (c0_9 : Nat) (l0_9 : List (S67)) (A0_10 : Option Addr) (c0_10 : Nat) (l0_10 : List (S70)) (a0_11 : Int) (a0_12 : Int) (a0_13 : Int) (a1_0 : Int) (a1_1 : Int) (a2_0 : Int) (a2_1 : Int) (a2_2 : Int) (a2_3 : Bool) (a2_4 : Int) (a2_5 : ByteArray) (a2_6 : ByteArray) (a2_7 : Int) (a2_8 : Int) (A2_9 : Option Addr) (c2_9 : Nat) (l2_9 : List (S25)) (A2_10 : Option Addr) (c2_10 : Nat) (l2_10 : List (S48)) (a3 a4 : Int) (r : Bool) (w : World) (hr0_4 : Kd.C k73 w A0_4 l0_4.length l0_4) (hc0_4 : l0_4.length ≤ c0_4) (hr0_5 : Kd.C k73 w A0_5 l0_5.length l0_5) (hc0_5 : l0_5.length ≤ c0_5) (hr0_6 : Kd.C k76 w A0_6 l0_6.length l0_6) (hc0_6 : l0_6.length ≤ c0_6) (hr0_7 : Kd.C k48 w A0_7 l0_7.length l0_7) (hc0_7 : l0_7.length ≤ c0_7) (hr0_8 : Kd.C k51 w A0_8 l0_8.length l0_8) (hc0_8 : l0_8.length ≤ c0_8) (hr0_9 : Kd.C k67 w A0_9 l0_9.length l0_9) (hc0_9 : l0_9.length ≤ c0_9) (hr0_10 : Kd.C k70 w A0_10 l0_10.length l0_10) (hc0_10 : l0_10.length ≤ c0_10) (hr2_9 : Kd.C k25 w A2_9 l2_9.length l2_9) (hc2_9 : l2_9.length ≤ c2_9) (hr2_10 : Kd.C k48 w A2_10 l2_10.length l2_10) (hc2_10 : l2_10.length ≤ c2_10) (h : annuletlaw30_PendAsks.f a0_0 a0_1 a0_2 a0_3 l0_4 l0_5 l0_6 l0_7 l0_8 l0_9 l0_10 a0_11 a0_12 a0_13 a1_0 a1_1 a2_0 a2_1 a2_2 a2_3 a2_4 a2_5 a2_6 a2_7 a2_8 l2_9 l2_10 a3 a4 = some r) :
    Calls Try.prog 3 #[.agg #[.int .u64 a0_0, .int .u16 a0_1, .int .i64 a0_2, .bool a0_3, .slice A0_4 l0_4.length c0_4, .slice A0_5 l0_5.length c0_5, .slice A0_6 l0_6.length c0_6, .slice A0_7 l0_7.length c0_7, .slice A0_8 l0_8.length c0_8, .slice A0_9 l0_9.length c0_9, .slice A0_10 l0_10.length c0_10, .int .u32 a0_11, .int .i64 a0_12, .int .i64 a0_13], .agg #[.int .u64 a1_0, .int .u16 a1_1], .agg #[.int .i64 a2_0, .int .u32 a2_1, .int .u8 a2_2, .bool a2_3, .int .u64 a2_4, .string a2_5, .string a2_6, .int .u64 a2_7, .int .u16 a2_8, .slice A2_9 l2_9.length c2_9, .slice A2_10 l2_10.length c2_10], .int .i64 a3, .int .i64 a4] w fun e w' => e = .returned (.bool r) ∧ Below w.heap.size w w' := by
  unfold annuletlaw30_PendAsks.f at h
  split at h
  · rename_i hall
    obtain rfl : true = r := Option.some.inj h
    simp only [Bool.and_eq_true, decide_eq_true_eq] at hall
    obtain ⟨⟨⟨⟨⟨⟨⟨⟨b4, b5⟩, b6⟩, b7⟩, b8⟩, b9⟩, b10⟩, m9⟩, m10⟩ := hall
    exact H.asks_calls ⟨a0_0, a0_1, a0_2, a0_3, l0_4, l0_5, l0_6, l0_7, l0_8, l0_9, l0_10, a0_11, a0_12, a0_13⟩ ⟨A0_4, A0_5, A0_6, A0_7, A0_8, A0_9, A0_10, c0_4, c0_5, c0_6, c0_7, c0_8, c0_9, c0_10⟩ a1_0 a1_1 ⟨a2_0, a2_1, a2_2, a2_3, a2_4, a2_5, a2_6, ⟨a2_7, a2_8⟩, l2_9, l2_10⟩ ⟨A2_9, A2_10, c2_9, c2_10⟩ a3 a4 w ⟨hr0_4, hc0_4, hr0_5, hc0_5, hr0_6, hc0_6, hr0_7, hc0_7, hr0_8, hc0_8, hr0_9, hc0_9, hr0_10, hc0_10⟩ ⟨b4, b5, b6, b7, b8, b9, b10⟩ ⟨hr2_9, hc2_9, hr2_10, hc2_10⟩ ⟨m9, m10⟩
  · simp at h
end Go.Proofs.Ytfgalgeloflilaa.P
namespace Go.Proofs.Ytfgalgeloflilaa.Pure
open Go Go.Proofs Go.RowKit Go.Proofs.Ytfgalgeloflilaa.P Go.Proofs.YtfgalgeloflilaaW.PrintWords Go.Proofs.YtfgalgeloflilaaW.PrintLast
theorem PendAsks : annuletlaw30_PendAsks.Pure := by
  intro x0 x1 x2 a3 a4 h0 h1 h2 _ _
  obtain ⟨_, _, _, g4, g5, g6, g7, g8, g9, g10, _⟩ := h0
  obtain ⟨_, _, _, _, _, _, _, _, k9, k10⟩ := h2
  unfold annuletlaw30_PendAsks.f
  refine if_pos ?_
  simp only [Bool.and_eq_true, decide_eq_true_eq]
  exact ⟨⟨⟨⟨⟨⟨⟨⟨g4.1, g5.1⟩, g6.1⟩, g7.1⟩, g8.1⟩, g9.1⟩, g10.1⟩, k9.1⟩, k10.1⟩
end Go.Proofs.Ytfgalgeloflilaa.Pure
