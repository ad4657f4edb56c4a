/- Mine. Chapter 23: what the memory of a sender's numbers does, in plain Lean. -/
import Derived.Test.YtaeelmkpjgmdlaaHKD
import Derived.Test.YtaeelmkpjgmdlaaPx2
import Derived.Laws.Bits64
namespace Go.Proofs.Ytaeelmkpjgmdlaa.Seen
open Go Go.Proofs Go.RowKit Go.Proofs.Ytaeelmkpjgmdlaa.P Go.Proofs.YtaeelmkpjgmdlaaW.PrintWords Go.Proofs.YtaeelmkpjgmdlaaW.PrintLast Go.Proofs.YtaeelmkpjgmdlaaW.PrintMore
set_option linter.unusedVariables false
set_option linter.unusedSimpArgs false
theorem wraps_u64 (n : Int) (h₀ : 0 ≤ n) (h₁ : n < 2 ^ 64) : IntKind.u64.wrap n = n := by
  rw [IntKind.wrap_u64, Int.emod_eq_of_lt h₀]
  have e : (2 : Int) ^ 64 = 18446744073709551616 := by decide
  omega
/-- Is the bit of the number n places back 1? The place 0 always is. -/
def has (b n : Nat) : Bool := n == 0 || b.testBit n
theorem has_or (b n : Nat) : (b ||| 1).testBit n = has b n := by
  unfold has
  rw [Nat.testBit_or]
  cases n with
  | zero => simp
  | succ n => simp [Nat.testBit_succ]
theorem or_one (b : Nat) (hb : b < 2 ^ 64) : Go.bits .or .u64 (b : Int) 1 = ((b ||| 1 : Nat) : Int) :=
  (bits_nat .u64 64 (by decide) wraps_u64 b 1 hb (by decide)).2
theorem div_cast (a n : Nat) : (a : Int) / 2 ^ n = ((a / 2 ^ n : Nat) : Int) := by
  rw [Int.natCast_ediv]; congr 1
theorem or_lt {a b : Nat} (ha : a < 2 ^ 64) (hb : b < 2 ^ 64) : a ||| b < 2 ^ 64 := Nat.or_lt_two_pow ha hb
theorem test_is (b n : Nat) (hb : b < 2 ^ 64) : (Go.bits .and .u64 (Go.bits .or .u64 (b : Int) 1 / 2 ^ n) 1 = 1) ↔ has b n = true := by
  rw [or_one b hb, div_cast]
  have h1 : (b ||| 1) / 2 ^ n < 2 ^ 64 := Nat.lt_of_le_of_lt (Nat.div_le_self _ _) (or_lt hb (by decide))
  rw [show (1 : Int) = ((1 : Nat) : Int) from rfl, (bits_nat .u64 64 (by decide) wraps_u64 _ 1 h1 (by decide)).1, Int.natCast_inj, Nat.and_one_is_mod, ← has_or, Nat.testBit_eq_decide_div_mod_eq, decide_eq_true_eq]
/-- What both say of a number. -/
def fr (any : Bool) (ep top b e i : Nat) : Int :=
  if any = false then 0 else if e > ep then 0 else if e < ep then 11 else if i > top then 0 else if 64 ≤ top - i then 11 else if has b (top - i) = true then 12 else 0
theorem back_is (top i : Nat) (ht : top < 4294967296) (h : i ≤ top) : ((top : Int) - (i : Int)) % 4294967296 = ((top - i : Nat) : Int) := by omega
theorem seen_fresh (any : Bool) (ep top b e i : Nat) (ht : top < 4294967296) (hb : b < 2 ^ 64) : seen_Fresh.f any ep top b e i = some (fr any ep top b e i) := by
  unfold seen_Fresh.f fr
  congr 1
  by_cases h1 : any = false
  · rw [if_pos h1, if_pos h1]
  rw [if_neg h1, if_neg h1]
  by_cases h2 : e > ep
  · rw [if_pos (by omega), if_pos h2]
  rw [if_neg (by omega), if_neg h2]
  by_cases h3 : e < ep
  · rw [if_pos (by omega), if_pos h3]
  rw [if_neg (by omega), if_neg h3]
  by_cases h4 : i > top
  · rw [if_pos (by omega), if_pos h4]
  rw [if_neg (by omega), if_neg h4, back_is top i ht (by omega)]
  by_cases h5 : 64 ≤ top - i
  · rw [if_pos (by omega), if_pos h5]
  rw [if_neg (by omega), if_neg h5, Int.toNat_natCast]
  by_cases h6 : has b (top - i) = true
  · rw [if_pos ((test_is b _ hb).2 h6), if_pos h6]
  · rw [if_neg (fun h => h6 ((test_is b _ hb).1 h)), if_neg h6]
/-- The bits behind a greater number, as the program has them. -/
def sb (b d : Nat) : Nat := ((b ||| 1) * 2 ^ min d 64) % 2 ^ 64 ||| 1
theorem sb_lt (b d : Nat) : sb b d < 2 ^ 64 := or_lt (Nat.mod_lt _ (by decide)) (by decide)
theorem sb_bit (b d j : Nat) (hj : j < 64) : (sb b d).testBit j = (j == 0 || (decide (d ≤ j) && has b (j - d))) := by
  unfold sb
  rw [Nat.testBit_or, Nat.testBit_mod_two_pow, Nat.testBit_mul_two_pow, has_or]
  cases j with
  | zero => simp
  | succ j =>
    have e1 : Nat.testBit 1 (j + 1) = false := by simp [Nat.testBit_succ]
    rw [e1]
    by_cases h : d ≤ j + 1
    · rw [Nat.min_eq_left (by omega)]
      simp [h, hj]
    · have h2 : decide (min d 64 ≤ j + 1) = false := decide_eq_false (by omega)
      simp [h, h2]
def mk (any : Bool) (ep top b e i : Nat) : Bool × Nat × Nat × Nat :=
  if fr any ep top b e i ≠ 0 then (any, ep, top, b) else if any = false then (true, e, i, 1) else if e > ep then (true, e, i, 1) else if i > top then (any, ep, i, sb b (i - top)) else (any, ep, top, b ||| 2 ^ (top - i))
def up (x : Bool × Nat × Nat × Nat) : Bool × Int × Int × Int := (x.1, x.2.1, x.2.2.1, x.2.2.2)
theorem pow_small (n : Nat) (h : n < 64) : 2 ^ n < 2 ^ 64 := Nat.pow_lt_pow_right (by decide) h
theorem fr_zero {any : Bool} {ep top b e i : Nat} (h : fr any ep top b e i = 0) : any = false ∨ e > ep ∨ (e = ep ∧ i > top) ∨ (e = ep ∧ i ≤ top ∧ top - i < 64 ∧ has b (top - i) = false) := by
  unfold fr at h
  by_cases h1 : any = false
  · exact .inl h1
  rw [if_neg h1] at h
  by_cases h2 : e > ep
  · exact .inr (.inl h2)
  rw [if_neg h2] at h
  by_cases h3 : e < ep
  · rw [if_pos h3] at h; cases h
  rw [if_neg h3] at h
  by_cases h4 : i > top
  · exact .inr (.inr (.inl ⟨by omega, h4⟩))
  rw [if_neg h4] at h
  by_cases h5 : 64 ≤ top - i
  · rw [if_pos h5] at h; cases h
  rw [if_neg h5] at h
  by_cases h6 : has b (top - i) = true
  · rw [if_pos h6] at h; cases h
  exact .inr (.inr (.inr ⟨by omega, by omega, by omega, by simpa using h6⟩))
theorem seen_mark (any : Bool) (ep top b e i : Nat) (ht : top < 4294967296) (hi : i < 4294967296) (hb : b < 2 ^ 64) : seen_Mark.f any ep top b e i = some (up (mk any ep top b e i)) := by
  unfold seen_Mark.f
  rw [seen_fresh any ep top b e i ht hb, Option.bind_some]
  unfold mk
  by_cases h0 : fr any ep top b e i ≠ 0
  · rw [if_pos h0, if_pos h0]; rfl
  rw [if_neg h0, if_neg h0]
  have h0' : fr any ep top b e i = 0 := by simpa using h0
  by_cases h1 : any = false
  · rw [if_pos h1, if_pos h1]; rfl
  rw [if_neg h1, if_neg h1]
  by_cases h2 : e > ep
  · rw [if_pos (by omega), if_pos h2]; rfl
  rw [if_neg (by omega), if_neg h2]
  by_cases h4 : i > top
  · rw [if_pos (by omega), if_pos h4]
    have e1 : (((i : Int) - top) % 4294967296) = ((i - top : Nat) : Int) := by omega
    rw [e1, or_one b hb]
    have e2 : shl .u64 ((b ||| 1 : Nat) : Int) ((i - top : Nat) : Int) = ((((b ||| 1) * 2 ^ min (i - top) 64) % 2 ^ 64 : Nat) : Int) := by
      unfold shl
      rw [Int.toNat_natCast, show IntKind.u64.bits = 64 from rfl, IntKind.wrap_u64, Int.natCast_emod, Int.natCast_mul, Int.natCast_pow]
      rfl
    rw [e2, or_one _ (Nat.mod_lt _ (by decide))]
    rfl
  · rw [if_neg (by omega), if_neg h4]
    have h5 : top - i < 64 := by
      rcases fr_zero h0' with h | h | h | h
      · exact absurd h h1
      · omega
      · omega
      · exact h.2.2.1
    have e1 : (((top : Int) - i) % 4294967296) = ((top - i : Nat) : Int) := by omega
    rw [e1, Int.toNat_natCast, Nat.min_eq_left (by omega)]
    have e2 : IntKind.u64.wrap ((2 : Int) ^ (top - i)) = ((2 ^ (top - i) : Nat) : Int) := by
      have : (2 : Int) ^ (top - i) = ((2 ^ (top - i) : Nat) : Int) := by push_cast; rfl
      rw [this]
      exact wraps_u64 _ (Int.natCast_nonneg _) (by exact_mod_cast pow_small _ h5)
    rw [e2, (bits_nat .u64 64 (by decide) wraps_u64 b _ hb (pow_small _ h5)).2]
    rfl


/-! ### The reference's Mark -/
theorem or_of_clear (b n : Nat) (h : b.testBit n = false) : b + 2 ^ n = b ||| 2 ^ n := by
  have h1 : b % 2 ^ (n + 1) < 2 ^ n := by
    rw [Nat.mod_pow_succ]
    rw [Nat.testBit_eq_decide_div_mod_eq] at h
    have h2 : b / 2 ^ n % 2 = 0 := by
      have := of_decide_eq_false h
      omega
    rw [h2, Nat.mul_zero, Nat.add_zero]
    exact Nat.mod_lt _ (Nat.two_pow_pos n)
  have h3 : b = 2 ^ (n + 1) * (b / 2 ^ (n + 1)) + b % 2 ^ (n + 1) := (Nat.div_add_mod _ _).symm
  generalize b % 2 ^ (n + 1) = lo at h1 h3
  generalize b / 2 ^ (n + 1) = hi at h3
  have h4 : lo < 2 ^ (n + 1) := Nat.lt_of_lt_of_le h1 (Nat.pow_le_pow_right (by decide) (by omega))
  have h5 : 2 ^ n + lo < 2 ^ (n + 1) := by rw [Nat.pow_succ]; omega
  have h6 : 2 ^ n + lo = 2 ^ n ||| lo := by
    have := Nat.two_pow_add_eq_or_of_lt h1 1
    rwa [Nat.mul_one] at this
  rw [h3, Nat.add_assoc, Nat.add_comm lo, Nat.two_pow_add_eq_or_of_lt h5, Nat.two_pow_add_eq_or_of_lt h4, h6, Nat.or_assoc, Nat.or_comm lo]
theorem mk_bounds {any : Bool} {ep top b e i : Nat} (he : ep < 4294967296) (ht : top < 4294967296) (hb : b < 2 ^ 64) (he' : e < 4294967296) (hi : i < 4294967296) :
    (mk any ep top b e i).2.1 < 4294967296 ∧ (mk any ep top b e i).2.2.1 < 4294967296 ∧ (mk any ep top b e i).2.2.2 < 2 ^ 64 := by
  unfold mk
  by_cases h0 : fr any ep top b e i ≠ 0
  · rw [if_pos h0]; exact ⟨he, ht, hb⟩
  have h0' : fr any ep top b e i = 0 := by simpa using h0
  rw [if_neg h0]
  by_cases h1 : any = false
  · rw [if_pos h1]; exact ⟨he', hi, by show 1 < 2 ^ 64; decide⟩
  rw [if_neg h1]
  by_cases h2 : e > ep
  · rw [if_pos h2]; exact ⟨he', hi, by show 1 < 2 ^ 64; decide⟩
  rw [if_neg h2]
  by_cases h4 : i > top
  · rw [if_pos h4]; exact ⟨he, hi, sb_lt _ _⟩
  rw [if_neg h4]
  refine ⟨he, ht, or_lt hb (pow_small _ ?_)⟩
  rcases fr_zero h0' with h | h | h | h
  · exact absurd h h1
  · omega
  · omega
  · exact h.2.2.1
theorem mk_any {any : Bool} {ep top b e i : Nat} : (mk any ep top b e i).1 = true := by
  unfold mk
  by_cases h0 : fr any ep top b e i ≠ 0
  · rw [if_pos h0]
    show any = true
    cases any with
    | true => rfl
    | false => exact absurd rfl h0
  · have h0' : fr any ep top b e i = 0 := by simpa using h0
    rw [if_neg h0]
    by_cases h1 : any = false
    · rw [if_pos h1]
    rw [if_neg h1]
    have : any = true := by simpa using h1
    subst this
    split
    · rfl
    · split <;> rfl
/-- The state after one more mark. -/
def frs (s : Bool × Nat × Nat × Nat) (e i : Nat) : Int := fr s.1 s.2.1 s.2.2.1 s.2.2.2 e i
def mks (s : Bool × Nat × Nat × Nat) (e i : Nat) : Bool × Nat × Nat × Nat := mk s.1 s.2.1 s.2.2.1 s.2.2.2 e i
/-- A number that is not fresh. -/
theorem stale_iff (ep top b e i : Nat) : fr true ep top b e i ≠ 0 ↔ (e < ep ∨ (e = ep ∧ i ≤ top ∧ (64 ≤ top - i ∨ has b (top - i) = true))) := by
  unfold fr
  rw [if_neg (by simp)]
  by_cases h2 : e > ep
  · rw [if_pos h2]
    simp
    omega
  rw [if_neg h2]
  by_cases h3 : e < ep
  · rw [if_pos h3]; simp [h3]
  rw [if_neg h3]
  obtain rfl : e = ep := by omega
  by_cases h4 : i > top
  · rw [if_pos h4]
    simp
    omega
  rw [if_neg h4]
  by_cases h5 : 64 ≤ top - i
  · rw [if_pos h5]; simp [h5]; omega
  rw [if_neg h5]
  by_cases h6 : has b (top - i) = true
  · rw [if_pos h6]; simp [h6]; omega
  · rw [if_neg h6]; simp [h6, h5]
theorem has_more {b n m : Nat} (h : has b n = true) : has (b ||| 2 ^ m) n = true := by
  unfold has at *
  rw [Nat.testBit_or]
  cases h1 : (n == 0) with
  | true => rfl
  | false =>
    rw [h1] at h
    simp only [Bool.false_or] at h ⊢
    rw [h]; rfl
/-- What was marked is not fresh. -/
theorem marked (s : Bool × Nat × Nat × Nat) (e i : Nat) : frs (mks s e i) e i ≠ 0 := by
  obtain ⟨any, ep, top, b⟩ := s
  have ha := mk_any (any := any) (ep := ep) (top := top) (b := b) (e := e) (i := i)
  show fr (mk any ep top b e i).1 (mk any ep top b e i).2.1 (mk any ep top b e i).2.2.1 (mk any ep top b e i).2.2.2 e i ≠ 0
  rw [ha]
  unfold mk
  by_cases h0 : fr any ep top b e i ≠ 0
  · rw [if_pos h0]
    cases any with
    | true => exact h0
    | false => exact absurd rfl h0
  have h0' : fr any ep top b e i = 0 := by simpa using h0
  rw [if_neg h0]
  rw [stale_iff]
  by_cases h1 : any = false
  · rw [if_pos h1]; exact .inr ⟨rfl, Nat.le_refl _, .inr (by simp [has])⟩
  rw [if_neg h1]
  by_cases h2 : e > ep
  · rw [if_pos h2]; exact .inr ⟨rfl, Nat.le_refl _, .inr (by simp [has])⟩
  rw [if_neg h2]
  have hep : e = ep := by
    rcases fr_zero h0' with h | h | h | h
    · exact absurd h h1
    · omega
    · exact h.1
    · exact h.1
  by_cases h4 : i > top
  · rw [if_pos h4]; exact .inr ⟨hep, Nat.le_refl _, .inr (by simp [has])⟩
  rw [if_neg h4]
  refine .inr ⟨hep, by show i ≤ top; omega, .inr ?_⟩
  show has (b ||| 2 ^ (top - i)) (top - i) = true
  unfold has
  rw [Nat.testBit_or, Nat.testBit_two_pow]
  simp
/-- What is not fresh stays so. -/
theorem stays (s : Bool × Nat × Nat × Nat) (e i e' i' : Nat) (h : frs s e i ≠ 0) : frs (mks s e' i') e i ≠ 0 := by
  obtain ⟨any, ep, top, b⟩ := s
  have ha := mk_any (any := any) (ep := ep) (top := top) (b := b) (e := e') (i := i')
  have hA : any = true := by
    cases any with
    | true => rfl
    | false => exact absurd rfl h
  subst hA
  show fr (mk true ep top b e' i').1 (mk true ep top b e' i').2.1 (mk true ep top b e' i').2.2.1 (mk true ep top b e' i').2.2.2 e i ≠ 0
  rw [ha, stale_iff]
  have h' : e < ep ∨ (e = ep ∧ i ≤ top ∧ (64 ≤ top - i ∨ has b (top - i) = true)) := (stale_iff _ _ _ _ _).1 h
  unfold mk
  by_cases h0 : fr true ep top b e' i' ≠ 0
  · rw [if_pos h0]; exact h'
  have h0' : fr true ep top b e' i' = 0 := by simpa using h0
  rw [if_neg h0, if_neg (by simp)]
  by_cases h2 : e' > ep
  · rw [if_pos h2]
    show e < e' ∨ _
    left
    rcases h' with h' | h' <;> omega
  rw [if_neg h2]
  by_cases h4 : i' > top
  · rw [if_pos h4]
    show e < ep ∨ (e = ep ∧ i ≤ i' ∧ (64 ≤ i' - i ∨ has (sb b (i' - top)) (i' - i) = true))
    rcases h' with h' | ⟨h5, h6, h7⟩
    · exact .inl h'
    · refine .inr ⟨h5, by omega, ?_⟩
      by_cases h8 : 64 ≤ i' - i
      · exact .inl h8
      · right
        have h9 := h7.resolve_left (by omega)
        unfold has
        rw [sb_bit b _ _ (by omega), decide_eq_true (show i' - top ≤ i' - i by omega), show i' - i - (i' - top) = top - i by omega, h9]
        simp
  · rw [if_neg h4]
    show e < ep ∨ (e = ep ∧ i ≤ top ∧ (64 ≤ top - i ∨ has (b ||| 2 ^ (top - i')) (top - i) = true))
    rcases h' with h' | ⟨h5, h6, h7⟩
    · exact .inl h'
    · refine .inr ⟨h5, h6, ?_⟩
      rcases h7 with h7 | h7
      · exact .inl h7
      · exact .inr (has_more h7)

end Go.Proofs.Ytaeelmkpjgmdlaa.Seen
