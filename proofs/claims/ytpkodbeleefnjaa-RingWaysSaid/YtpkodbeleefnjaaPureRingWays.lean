/- It is proved that, for every input, Dist, Upto, Between and Start of the program's ring answer as the reference's do. No condition. -/
import Derived.Test.YtpkodbeleefnjaaPRingWaysx2
namespace Go.Proofs.Ytpkodbeleefnjaa.Pure
open Go.RowKit Go.Proofs.Ytpkodbeleefnjaa.PRingWays Go.Proofs.YtpkodbeleefnjaaW.PrintWords Go.Proofs.YtpkodbeleefnjaaW.PrintLast

theorem wrap_u64 (n : Int) : IntKind.u64.wrap n = n % 18446744073709551616 := Eq.trans (b := n % 18446744073709551616) rfl rfl
theorem wf_u64 {n : Int} (h : (Lit.int .u64 n).wf = true) : 0 ≤ n ∧ n < 18446744073709551616 := by
  simp only [Lit.wf, Bool.and_eq_true, decide_eq_true_eq] at h
  have h1 : IntKind.u64.min = 0 := rfl
  have h2 : IntKind.u64.max = 18446744073709551615 := rfl
  omega

theorem between_is (a x b : Int) : ring_Between.f a x b = some (decide (x ≠ a ∧ (a = b ∨ (x - a) % 18446744073709551616 < (b - a) % 18446744073709551616))) := by
  unfold ring_Between.f ring_Dist.f
  simp only [wrap_u64, Option.bind_some]
  split
  · simp_all
  · split
    · simp_all
    · simp_all

theorem upto_is (a x b : Int) : ring_Upto.f a x b = some (decide (a = b ∨ x = b ∨ (x ≠ a ∧ (a = b ∨ (x - a) % 18446744073709551616 < (b - a) % 18446744073709551616)))) := by
  unfold ring_Upto.f
  rw [between_is]
  split
  · simp_all
  · split
    · simp_all
    · simp_all

theorem ref_upto_is (a x b : Int) : annuletref03_Upto.f a x b = some (decide ((a < b ∧ a < x ∧ x ≤ b) ∨ (b < a ∧ (a < x ∨ x ≤ b)) ∨ a = b)) := by
  unfold annuletref03_Upto.f
  repeat' split
  all_goals (congr 1; first | (symm; apply decide_eq_true; omega) | (symm; apply decide_eq_false; omega) | (rw [decide_eq_decide]; omega))

theorem ref_between_is (a x b : Int) : annuletref03_Between.f a x b = some (decide ((a = b ∧ x ≠ a) ∨ (a ≠ b ∧ x ≠ b ∧ ((a < b ∧ a < x ∧ x ≤ b) ∨ (b < a ∧ (a < x ∨ x ≤ b)))))) := by
  unfold annuletref03_Between.f
  rw [ref_upto_is]
  split
  · rename_i h
    subst h
    congr 1
    by_cases h2 : x = a <;> simp [h2]
  · split
    · simp_all
    · simp only [Option.bind_some]
      congr 1
      rw [decide_eq_decide]
      omega

theorem awake_is : annuletlaw03_awake.f 10 = some true := by decide +kernel
theorem awake_mono (k : Nat) : annuletlaw03_awake.f (10 + k) = some true := by
  induction k with
  | zero => exact awake_is
  | succ k ih => exact annuletlaw03_awake.mono (10 + k) _ ih

theorem wrap_i {i : Int} (h : 0 ≤ i) (h2 : i < 63) : wrap64 (i + 1) = i + 1 := by
  unfold wrap64
  omega

theorem double (n : Nat) : (2 : Int) ^ n + 2 ^ n = 2 ^ (n + 1) := by rw [Int.pow_succ]; omega

theorem small_pow (n : Nat) (h : n ≤ 63) : (2 : Int) ^ n ≤ 9223372036854775808 := by
  have : (2 : Int) ^ n ≤ 2 ^ 63 := by exact_mod_cast Nat.pow_le_pow_right (by omega) h
  have e : (2 : Int) ^ 63 = 9223372036854775808 := by decide
  omega

theorem pow_pos' (n : Nat) : 0 < (2 : Int) ^ n := by
  have : 0 < (2 : Nat) ^ n := Nat.pow_pos (by omega)
  exact_mod_cast this

theorem start_loop (a : Int) (bit : Nat) (hb : bit ≤ 63) (d : Nat) : ∀ (k i : Nat), i + d = bit → d < k →
    annuletref03_Start.l0 k a bit (2 ^ i) i = some ((a + 2 ^ bit) % 18446744073709551616) := by
  induction d with
  | zero =>
    intro k i hi hk
    obtain ⟨k, rfl⟩ : ∃ m, k = m + 1 := ⟨k - 1, by omega⟩
    obtain rfl : i = bit := by omega
    have h1 := small_pow i hb
    have h2 := pow_pos' i
    simp only [annuletref03_Start.l0, wrap_u64]
    rw [if_neg (by omega)]
    by_cases h5 : (2 : Int) ^ i > (18446744073709551615 - a) % 18446744073709551616
    · rw [if_pos h5]; congr 1; omega
    · rw [if_neg h5]
  | succ d ih =>
    intro k i hi hk
    obtain ⟨k, rfl⟩ : ∃ m, k = m + 1 := ⟨k - 1, by omega⟩
    have h3 := ih k (i + 1) (by omega) (by omega)
    have h1 := small_pow (i + 1) (by omega)
    have h2 := pow_pos' (i + 1)
    simp only [annuletref03_Start.l0, wrap_u64]
    rw [if_pos (by omega), double, wrap_i (by omega) (by omega), Int.emod_eq_of_lt (by omega) (by omega)]
    exact h3

theorem start_is (a b : Int) : ∃ r, ring_Start.f a b = some r ∧ annuletref03_Start.f 100 a b = some r := by
  unfold ring_Start.f annuletref03_Start.f
  by_cases h1 : b < 0
  · exact ⟨a, by rw [if_pos h1], by rw [if_pos h1]; rfl⟩
  · by_cases h2 : b ≥ 64
    · exact ⟨a, by rw [if_neg h1, if_pos h2], by rw [if_neg h1, decide_eq_true (by omega)]; rfl⟩
    · obtain ⟨n, rfl⟩ := Int.eq_ofNat_of_zero_le (show 0 ≤ b by omega)
      have hn : n ≤ 63 := by omega
      refine ⟨(a + 2 ^ n) % 18446744073709551616, ?_, ?_⟩
      · rw [if_neg h1, if_neg h2, if_pos (by omega)]
        congr 1
        have hs : shl .u64 1 (n : Int) = 2 ^ n := by
          unfold shl
          rw [Int.toNat_natCast, Nat.min_eq_left (by show n ≤ 64; omega), wrap_u64, Int.one_mul, Int.emod_eq_of_lt]
          · exact Int.le_of_lt (pow_pos' n)
          · have := small_pow n hn; omega
        rw [hs, wrap_u64]
      · rw [if_neg h1, decide_eq_false (by omega)]
        exact start_loop a n hn n 99 0 (by omega) (by omega)

theorem RingWays : annuletlaw03_RingWays.Pure := by
  intro a x b bit ha hx hb _
  obtain ⟨ha0, ha1⟩ := wf_u64 ha
  obtain ⟨hx0, hx1⟩ := wf_u64 hx
  obtain ⟨hb0, hb1⟩ := wf_u64 hb
  obtain ⟨r, hr1, hr2⟩ := start_is a bit
  have hd : ring_Dist.f a b = annuletref03_Dist.f a b := by
    unfold ring_Dist.f annuletref03_Dist.f
    simp only [wrap_u64]
    split
    · rfl
    · congr 1; omega
  have hu : ring_Upto.f a x b = annuletref03_Upto.f a x b := by
    rw [upto_is, ref_upto_is]
    congr 1
    rw [decide_eq_decide]
    omega
  have hw : ring_Between.f a x b = annuletref03_Between.f a x b := by
    rw [between_is, ref_between_is]
    congr 1
    rw [decide_eq_decide]
    omega
  refine ⟨100, ?_⟩
  have hk : annuletlaw03_awake.f 100 = some true := awake_mono 90
  unfold annuletlaw03_RingWays.f
  rw [← hd, ← hu, ← hw, hr1, hr2, hk]
  simp only [ring_Dist.f, upto_is, between_is, Option.bind_some, beq_self_eq_true, if_true]

end Go.Proofs.Ytpkodbeleefnjaa.Pure
