/- Mine: what the law tells, and its contract, turned to the row's form. -/
import Derived.Test.YtakbkpgbchdocaaPSayNetOnce
import Derived.Test.YtakbkpgbchdocaaHJ
namespace Go.Proofs.Ytakbkpgbchdocaa.P
open Go Go.Proofs Go.RowKit Go.Proofs.YtakbkpgbchdocaaW.PrintWords
theorem fitsB_of {l : List S26} (h : fitsB l = true) : H.Fits l := by
  unfold fitsB at h
  rw [Bool.and_eq_true] at h
  exact ⟨of_decide_eq_true h.1, fun x hx => of_decide_eq_true (List.all_eq_true.1 h.2 x hx)⟩
theorem annuletlaw39_NetOnce.walked (k : Nat) (A0 : Option Addr) (c0 : Nat) (l0 : List S26) (a1 a2 a3 : Int) (r : Bool) (w : World) (hr0 : Kd.C k26 w A0 l0.length l0) (hc0 : l0.length ≤ c0) (h : annuletlaw39_NetOnce.f k l0 a1 a2 a3 = some r) :
    Calls Try.prog 5 #[.slice A0 l0.length c0, .int .i64 a1, .int .i64 a2, .int .u32 a3] w fun e w' => e = .returned (.bool r) ∧ Below w.heap.size w w' := by
  unfold annuletlaw39_NetOnce.f at h
  obtain ⟨lg, hlg, h⟩ := Option.bind_eq_some_iff.1 h
  split at h
  · rename_i hall
    obtain rfl : true = r := Option.some.inj h
    exact H.once_calls k A0 c0 l0 a1 a2 a3 lg w hr0 hc0 (fitsB_of hall) hlg
  · simp at h
end Go.Proofs.Ytakbkpgbchdocaa.P
namespace Go.Proofs.Ytakbkpgbchdocaa.Pure
open Go Go.Proofs Go.RowKit Go.Proofs.Ytakbkpgbchdocaa.P Go.Proofs.YtakbkpgbchdocaaW.PrintWords Go.Proofs.YtakbkpgbchdocaaW.PrintLast
theorem large_ends (l : List S26) : ∀ (k : Nat) (n i : Int), 0 ≤ i → i ≤ 1100 → 1100 - i < k → ∃ b, annuletlaw39_large.l0 k l n i = some b
  | 0, n, i, h0, h2, h1 => by omega
  | k + 1, n, i, h0, h2, h1 => by
    have hend : ∃ b, (if (l.length : Int) > 1030 then some true else some (decide (n > 80000))) = some b := by
      split
      · exact ⟨_, rfl⟩
      · exact ⟨_, rfl⟩
    simp only [annuletlaw39_large.l0]
    split
    · split
      · try rw [if_pos h0]
        have hw : wrap64 (i + 1) = i + 1 := by unfold wrap64; omega
        rw [hw]
        exact large_ends l k _ _ (by omega) (by omega) (by omega)
      · exact hend
    · exact hend
theorem NetOnce : annuletlaw39_NetOnce.Pure := by
  intro l0 a1 a2 a3 h0 _ _ _
  obtain ⟨b, hb⟩ := large_ends l0 1200 0 0 (by decide) (by decide) (by decide)
  refine ⟨1200, ?_⟩
  unfold annuletlaw39_NetOnce.f
  rw [show annuletlaw39_large.f 1200 l0 = some b from hb]
  show (if _ then some true else none) = some true
  refine if_pos ?_
  unfold fitsB
  rw [Bool.and_eq_true]
  exact ⟨decide_eq_true h0.1, List.all_eq_true.2 (fun x hx => decide_eq_true (by
    have h := (h0.2 x hx)
    unfold wf26 at h
    have := h.2.2.1.1
    omega))⟩
end Go.Proofs.Ytakbkpgbchdocaa.Pure
