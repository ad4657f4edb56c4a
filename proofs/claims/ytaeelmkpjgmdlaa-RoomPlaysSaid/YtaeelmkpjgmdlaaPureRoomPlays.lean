/- Mine: what the law tells, and its contract, turned to the row's form. -/
import Derived.Test.YtaeelmkpjgmdlaaPSayRoomPlays
import Derived.Test.YtaeelmkpjgmdlaaHXL
namespace Go.Proofs.Ytaeelmkpjgmdlaa.P
open Go Go.Proofs Go.RowKit Go.Proofs.YtaeelmkpjgmdlaaW.PrintWords
theorem annuletlaw22_RoomPlays.walked (k : Nat) (a0 a1 a2 : Int) (A1 : Option Addr) (c1 : Nat) (l1 : List S40) (r : Bool) (w : World) (hr1 : Kd.C k40 w A1 l1.length l1) (hc1 : l1.length ≤ c1) (h : annuletlaw22_RoomPlays.f k a0 a1 a2 l1 = some r) :
    Calls Try.prog 3 #[.agg #[.int .i64 a0, .int .i64 a1, .int .i64 a2], .slice A1 l1.length c1] w fun e w' => e = .returned (.bool r) ∧ Below w.heap.size w w' := by
  unfold annuletlaw22_RoomPlays.f at h
  obtain ⟨lg, hlg, h⟩ := Option.bind_eq_some_iff.1 h
  split at h
  · rename_i hall
    obtain rfl : true = r := Option.some.inj h
    exact H.plays_calls k ⟨a0, a1, a2⟩ A1 c1 l1 lg w hr1 hc1 hlg hall
  · simp at h
end Go.Proofs.Ytaeelmkpjgmdlaa.P
namespace Go.Proofs.Ytaeelmkpjgmdlaa.Pure
open Go Go.Proofs Go.RowKit Go.Proofs.Ytaeelmkpjgmdlaa.P Go.Proofs.YtaeelmkpjgmdlaaW.PrintWords Go.Proofs.YtaeelmkpjgmdlaaW.PrintLast
theorem large_ends (l : List S40) : ∀ (k : Nat) (n i : Int), 0 ≤ i → i ≤ 300 → 300 - i < k → ∃ b, annuletlaw22_Large.l0 k l n i = some b
  | 0, n, i, h0, h2, h1 => by omega
  | k + 1, n, i, h0, h2, h1 => by
    have hend : ∃ b, (if (l.length : Int) > 200 then some true else some (decide (n > 80000))) = some b := by
      split
      · exact ⟨_, rfl⟩
      · exact ⟨_, rfl⟩
    simp only [annuletlaw22_Large.l0]
    split
    · split
      · try rw [if_pos h0]
        have hw : wrap64 (i + 1) = i + 1 := by unfold wrap64; omega
        rw [hw]
        exact large_ends l k _ _ (by omega) (by omega) (by omega)
      · exact hend
    · exact hend
theorem okD_of {l : List S40} (h : ∀ y ∈ l, wf40 y) : okD l = true := List.all_eq_true.2 fun x hx => by
  obtain ⟨_, h1, h2⟩ := h x hx
  obtain ⟨_, h3, h4, h5, h6, h7, _⟩ := h2
  rw [h1, h3, h4, h5, h6, h7]
  rfl
theorem RoomPlays : annuletlaw22_RoomPlays.Pure := by
  intro x0 l1 _ h1
  obtain ⟨b, hb⟩ := large_ends l1 400 0 0 (by decide) (by decide) (by decide)
  refine ⟨400, ?_⟩
  unfold annuletlaw22_RoomPlays.f
  rw [show annuletlaw22_Large.f 400 l1 = some b from hb]
  show (if _ then some true else none) = some true
  rw [if_pos (okD_of h1.2)]
end Go.Proofs.Ytaeelmkpjgmdlaa.Pure
