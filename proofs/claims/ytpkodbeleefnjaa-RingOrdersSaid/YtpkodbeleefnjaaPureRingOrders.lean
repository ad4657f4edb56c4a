/- It is proved that, for every key and every list of places, Owner and Sort of the program's ring answer as the reference's do. No condition. -/
import Derived.Test.YtpkodbeleefnjaaPSayRingOrders
import Derived.Test.YtpkodbeleefnjaaRingLaw
namespace Go.Proofs.Ytpkodbeleefnjaa.Pure
open Go.RowKit Go.Proofs.Ytpkodbeleefnjaa.P Go.Proofs.YtpkodbeleefnjaaW.PrintWords Go.Proofs.YtpkodbeleefnjaaW.PrintLast Go.Proofs.Ytpkodbeleefnjaa.RingLaw

theorem same_loop (s : List Int) (hs : s.length ≤ 40) : ∀ d i : Nat, i + d = s.length → ∃ k, annuletref01_Same.l0 k s s (i : Int) = some true
  | 0, i, hi => ⟨1, by simp only [annuletref01_Same.l0]; rw [if_neg (by omega)]⟩
  | d + 1, i, hi => by
    obtain ⟨k, hk⟩ := same_loop s hs d (i + 1) (by omega)
    refine ⟨k + 1, ?_⟩
    simp only [annuletref01_Same.l0]
    rw [if_pos (by omega), if_pos (by omega), if_pos (by omega), if_pos trivial, step40 (by omega)]
    exact hk

theorem RingOrders : annuletlaw03_RingOrders.Pure := by
  intro a0 l1 h0 h1
  have hm : U a0 := wf_u64 h0
  have hu : ∀ x ∈ l1, U x := fun x hx => wf_u64 (h1.2 x hx)
  by_cases hl : (l1.length : Int) > 40
  · refine ⟨10, ?_⟩
    unfold annuletlaw03_RingOrders.f
    rw [if_pos hl, awake_is]
    rfl
  · obtain ⟨k1, r1, e1, o1⟩ := owner_is a0 l1 (by omega)
    obtain ⟨k2, r2, e2, o2⟩ := ref_owner_is a0 l1 hm hu (by omega)
    obtain ⟨s, e3, s1, s2⟩ := sort_is a0 l1 (by omega)
    obtain ⟨k4, r4, e4, s3, s4⟩ := ref_sort_is a0 l1 hm hu (by omega)
    have hsr : s = r4 := order_unique s1 s3 (fun x hx => hu x (s2.mem_iff.1 hx)) (s2.trans s4.symm)
    subst hsr
    have hsl := s2.length_eq
    obtain ⟨k5, e5⟩ := same_loop s (by omega) s.length 0 (by omega)
    have e5' : annuletref01_Same.f k5 s s = some true := by
      unfold annuletref01_Same.f
      rw [if_pos rfl]
      exact e5
    refine ⟨k1 + k2 + k4 + k5 + 10, ?_⟩
    unfold annuletlaw03_RingOrders.f
    rw [if_neg hl, up (g := fun k => ring_Owner.f k l1 a0) (fun k => ring_Owner.mono _ _ k) e1 _ (by omega)]
    simp only [Option.bind_some]
    rw [up (g := fun k => annuletref03_Owner.f k l1 a0) (fun k => annuletref03_Owner.mono _ _ k) e2 _ (by omega)]
    simp only [Option.bind_some]
    rw [if_pos (owner_same o1 o2), e3]
    simp only [Option.bind_some]
    rw [up (g := fun k => annuletref03_Sort.f k a0 l1) (fun k => annuletref03_Sort.mono _ _ k) e4 _ (by omega)]
    simp only [Option.bind_some]
    rw [up (g := fun k => annuletref01_Same.f k s s) (fun k => annuletref01_Same.mono _ _ k) e5' _ (by omega)]
    simp only [Option.bind_some]
    rw [if_pos trivial, up (g := fun k => annuletlaw03_awake.f k) (fun k => annuletlaw03_awake.mono k) awake_is _ (by omega)]
    rfl

end Go.Proofs.Ytpkodbeleefnjaa.Pure
