/- Mine: what the law tells, and its contract, turned to the row's form. -/
import Derived.Test.YtgmflbgeaiplhaaPSayPartsPlay
import Derived.Test.YtgmflbgeaiplhaaHI
namespace Go.Proofs.Ytgmflbgeaiplhaa.P
open Go Go.Proofs Go.RowKit Go.Proofs.YtgmflbgeaiplhaaW.PrintWords
theorem annuletlaw21_PartsPlay.walked (k : Nat) (a0 : Int) (A1 : Option Addr) (c1 : Nat) (l1 : List S35) (r : Bool) (w : World) (hr1 : Kd.C k35 w A1 l1.length l1) (hc1 : l1.length ≤ c1) (h : annuletlaw21_PartsPlay.f k a0 l1 = some r) :
    Calls Try.prog 3 #[.int .i64 a0, .slice A1 l1.length c1] w fun e w' => e = .returned (.bool r) ∧ Below w.heap.size w w' := by
  unfold annuletlaw21_PartsPlay.f at h
  obtain ⟨lg, hlg, h⟩ := Option.bind_eq_some_iff.1 h
  split at h
  · rename_i hall
    obtain rfl : true = r := Option.some.inj h
    exact H.play_calls k a0 A1 c1 l1 lg w hr1 hc1 hlg (fun x hx => List.all_eq_true.1 hall x hx)
  · simp at h
end Go.Proofs.Ytgmflbgeaiplhaa.P
namespace Go.Proofs.Ytgmflbgeaiplhaa.Pure
open Go Go.Proofs Go.RowKit Go.Proofs.Ytgmflbgeaiplhaa.P Go.Proofs.YtgmflbgeaiplhaaW.PrintWords Go.Proofs.YtgmflbgeaiplhaaW.PrintLast
theorem large_ends (l : List S35) : ∀ (k : Nat) (n i : Int), 0 ≤ i → i ≤ 300 → 300 - i < k → ∃ b, annuletlaw21_large.l0 k l n i = some b
  | 0, n, i, h0, h2, h1 => by omega
  | k + 1, n, i, h0, h2, h1 => by
    have hend : ∃ b, (if (l.length : Int) > 200 then some true else some (decide (n > 8000))) = some b := by
      split
      · exact ⟨_, rfl⟩
      · exact ⟨_, rfl⟩
    simp only [annuletlaw21_large.l0]
    split
    · split
      · try rw [if_pos h0]
        have hw : wrap64 (i + 1) = i + 1 := by unfold wrap64; omega
        rw [hw]
        exact large_ends l k _ _ (by omega) (by omega) (by omega)
      · exact hend
    · exact hend
theorem PartsPlay : annuletlaw21_PartsPlay.Pure := by
  intro a0 l1 _ h1
  obtain ⟨b, hb⟩ := large_ends l1 400 0 0 (by decide) (by decide) (by decide)
  refine ⟨400, ?_⟩
  unfold annuletlaw21_PartsPlay.f
  rw [show annuletlaw21_large.f 400 l1 = some b from hb]
  show (if _ then some true else none) = some true
  rw [if_pos (List.all_eq_true.2 (fun x hx => (h1.2 x hx).1))]
end Go.Proofs.Ytgmflbgeaiplhaa.Pure
