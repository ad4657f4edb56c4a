/- It is proved that, for every input, the distances of two ways in line on the ring add up to the whole way's, that what is not met on the way from a to b is met on the way from b to a, and that Upto is Between or the end itself. No condition. -/
import Derived.Test.YtpkodbeleefnjaaPRingRoundx1
namespace Go.Proofs.Ytpkodbeleefnjaa.Pure
open Go.RowKit Go.Proofs.Ytpkodbeleefnjaa.PRingRound Go.Proofs.YtpkodbeleefnjaaW.PrintWords Go.Proofs.YtpkodbeleefnjaaW.PrintLast

theorem wrap_u64 (n : Int) : IntKind.u64.wrap n = n % 18446744073709551616 := rfl
theorem wf_u64 {n : Int} (h : (Lit.int .u64 n).wf = true) : 0 ≤ n ∧ n < 18446744073709551616 := by
  simp only [Lit.wf, Bool.and_eq_true, decide_eq_true_eq] at h
  have h1 : IntKind.u64.min = 0 := rfl
  have h2 : IntKind.u64.max = 18446744073709551615 := rfl
  omega

theorem between_is (a x b : Int) : ring_Between.f a x b = some (decide (x ≠ a ∧ (a = b ∨ (x - a) % 18446744073709551616 < (b - a) % 18446744073709551616))) := by
  unfold ring_Between.f ring_Dist.f
  simp only [wrap_u64, Option.bind_some]
  split
  · simp_all
  · split
    · simp_all
    · simp_all

theorem upto_is (a x b : Int) : ring_Upto.f a x b = some (decide (a = b ∨ x = b ∨ (x ≠ a ∧ (a = b ∨ (x - a) % 18446744073709551616 < (b - a) % 18446744073709551616)))) := by
  unfold ring_Upto.f
  rw [between_is]
  split
  · simp_all
  · split
    · simp_all
    · simp_all

theorem awake_is : annuletlaw03_awake.f 10 = some true := by decide +kernel

theorem RingRound : annuletlaw03_RingRound.Pure := by
  intro a x b ha hx hb
  obtain ⟨ha0, ha1⟩ := wf_u64 ha
  obtain ⟨hx0, hx1⟩ := wf_u64 hx
  obtain ⟨hb0, hb1⟩ := wf_u64 hb
  refine ⟨11, ?_⟩
  have hj : ∀ d, annuletlaw03_RingRound.j0 11 a x b d = some (!d) := by
    intro d
    cases d with
    | true => rfl
    | false =>
      simp only [annuletlaw03_RingRound.j0, upto_is, between_is, awake_is, Option.bind_some]
      by_cases h1 : a = b <;> by_cases h2 : x = b <;> by_cases h3 : x = a <;> simp [h1, h2, h3]
      all_goals split
      all_goals first | (simp_all; done) | (rw [if_pos (by rw [decide_eq_false (by omega)]; simp [h2])])
  unfold annuletlaw03_RingRound.f
  simp only [upto_is, ring_Dist.f, wrap_u64, Option.bind_some, hj]
  rw [if_pos (by omega)]
  by_cases h1 : a = b
  · simp [h1]
  · rw [if_neg h1]
    simp only [Option.some.injEq, Bool.not_eq_true', beq_eq_false_iff_ne]
    intro h
    rw [decide_eq_decide] at h
    omega

end Go.Proofs.Ytpkodbeleefnjaa.Pure
