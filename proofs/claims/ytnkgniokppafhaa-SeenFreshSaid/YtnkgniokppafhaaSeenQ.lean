/- The plain law of chapter 20: what the two records of delivered numbers answer, over natural numbers, bit by bit. -/
import Derived.Test.YtnkgniokppafhaaQx3
import Derived.Laws.Bits64
namespace Go.Proofs.Ytnkgniokppafhaa.SeenQ
open Go.RowKit Go.Proofs.Ytnkgniokppafhaa.Q Go.Proofs.YtnkgniokppafhaaW.PrintWords Go.Proofs.YtnkgniokppafhaaW.PrintLast Go.Proofs.YtnkgniokppafhaaW.PrintMore

theorem wraps_u64 (n : Int) (h₀ : 0 ≤ n) (h₁ : n < 2 ^ 64) : IntKind.u64.wrap n = n := by
  rw [IntKind.wrap_u64, Int.emod_eq_of_lt h₀]
  have e : (2 : Int) ^ 64 = 18446744073709551616 := by decide
  omega

/-- Is the bit of the number n places back 1? The place 0 always is. -/
def has (b n : Nat) : Bool := n == 0 || b.testBit n

theorem has_or (b n : Nat) : (b ||| 1).testBit n = has b n := by
  unfold has
  rw [Nat.testBit_or]
  cases n with
  | zero => simp
  | succ n => simp [Nat.testBit_succ]

theorem or_one (b : Nat) (hb : b < 2 ^ 64) : Go.bits .or .u64 (b : Int) 1 = ((b ||| 1 : Nat) : Int) :=
  (bits_nat .u64 64 (by decide) wraps_u64 b 1 hb (by decide)).2

theorem div_cast (a n : Nat) : (a : Int) / 2 ^ n = ((a / 2 ^ n : Nat) : Int) := by
  rw [Int.natCast_ediv]; congr 1

theorem or_lt {a b : Nat} (ha : a < 2 ^ 64) (hb : b < 2 ^ 64) : a ||| b < 2 ^ 64 := Nat.or_lt_two_pow ha hb

theorem test_is (b n : Nat) (hb : b < 2 ^ 64) : (Go.bits .and .u64 (Go.bits .or .u64 (b : Int) 1 / 2 ^ n) 1 = 1) ↔ has b n = true := by
  rw [or_one b hb, div_cast]
  have h1 : (b ||| 1) / 2 ^ n < 2 ^ 64 := Nat.lt_of_le_of_lt (Nat.div_le_self _ _) (or_lt hb (by decide))
  rw [show (1 : Int) = ((1 : Nat) : Int) from rfl, (bits_nat .u64 64 (by decide) wraps_u64 _ 1 h1 (by decide)).1, Int.natCast_inj, Nat.and_one_is_mod, ← has_or, Nat.testBit_eq_decide_div_mod_eq, decide_eq_true_eq]

/-- What both say of a number. -/
def fr (any : Bool) (ep top b e i : Nat) : Int :=
  if any = false then 0 else if e > ep then 0 else if e < ep then 11 else if i > top then 0 else if 64 ≤ top - i then 11 else if has b (top - i) = true then 12 else 0

theorem back_is (top i : Nat) (ht : top < 4294967296) (h : i ≤ top) : ((top : Int) - (i : Int)) % 4294967296 = ((top - i : Nat) : Int) := by omega

theorem seen_fresh (any : Bool) (ep top b e i : Nat) (ht : top < 4294967296) (hb : b < 2 ^ 64) : seen_Fresh.f any ep top b e i = some (fr any ep top b e i) := by
  unfold seen_Fresh.f fr
  congr 1
  by_cases h1 : any = false
  · rw [if_pos h1, if_pos h1]
  rw [if_neg h1, if_neg h1]
  by_cases h2 : e > ep
  · rw [if_pos (by omega), if_pos h2]
  rw [if_neg (by omega), if_neg h2]
  by_cases h3 : e < ep
  · rw [if_pos (by omega), if_pos h3]
  rw [if_neg (by omega), if_neg h3]
  by_cases h4 : i > top
  · rw [if_pos (by omega), if_pos h4]
  rw [if_neg (by omega), if_neg h4, back_is top i ht (by omega)]
  by_cases h5 : 64 ≤ top - i
  · rw [if_pos (by omega), if_pos h5]
  rw [if_neg (by omega), if_neg h5, Int.toNat_natCast]
  by_cases h6 : has b (top - i) = true
  · rw [if_pos ((test_is b _ hb).2 h6), if_pos h6]
  · rw [if_neg (fun h => h6 ((test_is b _ hb).1 h)), if_neg h6]

theorem tdiv2 (x : Nat) (hx : x < 2 ^ 64) : IntKind.u64.wrap (Int.tdiv (x : Int) 2) = ((x / 2 : Nat) : Int) := by
  have e : Int.tdiv (x : Int) 2 = ((x / 2 : Nat) : Int) := rfl
  rw [e]
  exact wraps_u64 _ (by omega) (by have : x / 2 < 2 ^ 64 := by omega
                                   exact_mod_cast this)

theorem bit_loop (d : Nat) : ∀ (k x i top : Nat) (a : Bool) (p q : Int), top < 4294967296 → i + d = top → x < 2 ^ 64 → d < k → annuletref20_bit.l0 k x i a p top q = some (x.testBit d) := by
  induction d with
  | zero =>
    intro k x i top a p q ht hi hx hk
    obtain ⟨k, rfl⟩ : ∃ m, k = m + 1 := ⟨k - 1, by omega⟩
    simp only [annuletref20_bit.l0]
    rw [if_neg (by omega)]
    congr 1
    have e : Int.tmod (x : Int) 2 = ((x % 2 : Nat) : Int) := rfl
    rw [e, Nat.testBit_zero]
    have : x % 2 = 0 ∨ x % 2 = 1 := by omega
    rcases this with h | h <;> simp [h]
  | succ d ih =>
    intro k x i top a p q ht hi hx hk
    obtain ⟨k, rfl⟩ : ∃ m, k = m + 1 := ⟨k - 1, by omega⟩
    simp only [annuletref20_bit.l0]
    rw [if_pos (by omega), tdiv2 x hx, show ((i : Int) + 1) % 4294967296 = ((i + 1 : Nat) : Int) by omega, ih k (x / 2) (i + 1) top a p q ht (by omega) (by omega) (by omega), Nat.testBit_succ]

theorem ref_bit (k : Nat) (a : Bool) (p : Int) (top b i : Nat) (ht : top < 4294967296) (hb : b < 2 ^ 64) (hi : i ≤ top) (hk : top - i < k) : annuletref20_bit.f k a p top b i = some (has b (top - i)) := by
  unfold annuletref20_bit.f has
  by_cases h : (i : Int) = top
  · rw [if_pos h, show top - i = 0 by omega]; rfl
  · rw [if_neg h, bit_loop (top - i) k b i top a p b ht (by omega) hb hk]
    have : (top - i == 0) = false := by simp; omega
    rw [this]; rfl

theorem ref_fresh (k : Nat) (hk : 64 ≤ k) (any : Bool) (ep top b e i : Nat) (ht : top < 4294967296) (hb : b < 2 ^ 64) : annuletref20_Fresh.f k any ep top b e i = some (fr any ep top b e i) := by
  unfold annuletref20_Fresh.f fr
  by_cases h1 : any = false
  · rw [if_neg (by simp [h1]), if_pos h1]
  rw [if_pos (by simpa using h1), if_neg h1]
  by_cases h2 : e > ep
  · rw [if_neg (by omega), if_pos (by omega), if_pos h2]
  by_cases h3 : e < ep
  · rw [if_neg (by omega), if_neg (by omega), if_neg h2, if_pos h3]
  rw [if_pos (by omega), if_neg h2, if_neg h3]
  by_cases h4 : i > top
  · rw [if_pos (by omega), if_pos h4]
  rw [if_neg (by omega), if_neg h4, back_is top i ht (by omega)]
  by_cases h5 : 64 ≤ top - i
  · rw [if_pos (by omega), if_pos h5]
  rw [if_neg (by omega), if_neg h5, ref_bit k any ep top b i ht hb (by omega) (by omega), Option.bind_some]
  split <;> rfl

/-! ### Mark -/
/-- The bits behind a greater number, as the program has them. -/
def sb (b d : Nat) : Nat := ((b ||| 1) * 2 ^ min d 64) % 2 ^ 64 ||| 1

theorem sb_lt (b d : Nat) : sb b d < 2 ^ 64 := or_lt (Nat.mod_lt _ (by decide)) (by decide)

theorem sb_bit (b d j : Nat) (hj : j < 64) : (sb b d).testBit j = (j == 0 || (decide (d ≤ j) && has b (j - d))) := by
  unfold sb
  rw [Nat.testBit_or, Nat.testBit_mod_two_pow, Nat.testBit_mul_two_pow, has_or]
  cases j with
  | zero => simp
  | succ j =>
    have e1 : Nat.testBit 1 (j + 1) = false := by simp [Nat.testBit_succ]
    rw [e1]
    by_cases h : d ≤ j + 1
    · rw [Nat.min_eq_left (by omega)]
      simp [h, hj]
    · have h2 : decide (min d 64 ≤ j + 1) = false := decide_eq_false (by omega)
      simp [h, h2]

def mk (any : Bool) (ep top b e i : Nat) : Bool × Nat × Nat × Nat :=
  if fr any ep top b e i ≠ 0 then (any, ep, top, b) else if any = false then (true, e, i, 1) else if e > ep then (true, e, i, 1) else if i > top then (any, ep, i, sb b (i - top)) else (any, ep, top, b ||| 2 ^ (top - i))

def up (x : Bool × Nat × Nat × Nat) : Bool × Int × Int × Int := (x.1, x.2.1, x.2.2.1, x.2.2.2)

theorem pow_small (n : Nat) (h : n < 64) : 2 ^ n < 2 ^ 64 := Nat.pow_lt_pow_right (by decide) h

theorem fr_zero {any : Bool} {ep top b e i : Nat} (h : fr any ep top b e i = 0) : any = false ∨ e > ep ∨ (e = ep ∧ i > top) ∨ (e = ep ∧ i ≤ top ∧ top - i < 64 ∧ has b (top - i) = false) := by
  unfold fr at h
  by_cases h1 : any = false
  · exact .inl h1
  rw [if_neg h1] at h
  by_cases h2 : e > ep
  · exact .inr (.inl h2)
  rw [if_neg h2] at h
  by_cases h3 : e < ep
  · rw [if_pos h3] at h; cases h
  rw [if_neg h3] at h
  by_cases h4 : i > top
  · exact .inr (.inr (.inl ⟨by omega, h4⟩))
  rw [if_neg h4] at h
  by_cases h5 : 64 ≤ top - i
  · rw [if_pos h5] at h; cases h
  rw [if_neg h5] at h
  by_cases h6 : has b (top - i) = true
  · rw [if_pos h6] at h; cases h
  exact .inr (.inr (.inr ⟨by omega, by omega, by omega, by simpa using h6⟩))

theorem seen_mark (any : Bool) (ep top b e i : Nat) (ht : top < 4294967296) (hi : i < 4294967296) (hb : b < 2 ^ 64) : seen_Mark.f any ep top b e i = some (up (mk any ep top b e i)) := by
  unfold seen_Mark.f
  rw [seen_fresh any ep top b e i ht hb, Option.bind_some]
  unfold mk
  by_cases h0 : fr any ep top b e i ≠ 0
  · rw [if_pos h0, if_pos h0]; rfl
  rw [if_neg h0, if_neg h0]
  have h0' : fr any ep top b e i = 0 := by simpa using h0
  by_cases h1 : any = false
  · rw [if_pos h1, if_pos h1]; rfl
  rw [if_neg h1, if_neg h1]
  by_cases h2 : e > ep
  · rw [if_pos (by omega), if_pos h2]; rfl
  rw [if_neg (by omega), if_neg h2]
  by_cases h4 : i > top
  · rw [if_pos (by omega), if_pos h4]
    have e1 : (((i : Int) - top) % 4294967296) = ((i - top : Nat) : Int) := by omega
    rw [e1, or_one b hb]
    have e2 : shl .u64 ((b ||| 1 : Nat) : Int) ((i - top : Nat) : Int) = ((((b ||| 1) * 2 ^ min (i - top) 64) % 2 ^ 64 : Nat) : Int) := by
      unfold shl
      rw [Int.toNat_natCast, show IntKind.u64.bits = 64 from rfl, IntKind.wrap_u64, Int.natCast_emod, Int.natCast_mul, Int.natCast_pow]
      rfl
    rw [e2, or_one _ (Nat.mod_lt _ (by decide))]
    rfl
  · rw [if_neg (by omega), if_neg h4]
    have h5 : top - i < 64 := by
      rcases fr_zero h0' with h | h | h | h
      · exact absurd h h1
      · omega
      · omega
      · exact h.2.2.1
    have e1 : (((top : Int) - i) % 4294967296) = ((top - i : Nat) : Int) := by omega
    rw [e1, Int.toNat_natCast, Nat.min_eq_left (by omega)]
    have e2 : IntKind.u64.wrap ((2 : Int) ^ (top - i)) = ((2 ^ (top - i) : Nat) : Int) := by
      have : (2 : Int) ^ (top - i) = ((2 ^ (top - i) : Nat) : Int) := by push_cast; rfl
      rw [this]
      exact wraps_u64 _ (Int.natCast_nonneg _) (by exact_mod_cast pow_small _ h5)
    rw [e2, (bits_nat .u64 64 (by decide) wraps_u64 b _ hb (pow_small _ h5)).2]
    rfl


/-! ### The reference's Mark -/
theorem or_of_clear (b n : Nat) (h : b.testBit n = false) : b + 2 ^ n = b ||| 2 ^ n := by
  have h1 : b % 2 ^ (n + 1) < 2 ^ n := by
    rw [Nat.mod_pow_succ]
    rw [Nat.testBit_eq_decide_div_mod_eq] at h
    have h2 : b / 2 ^ n % 2 = 0 := by
      have := of_decide_eq_false h
      omega
    rw [h2, Nat.mul_zero, Nat.add_zero]
    exact Nat.mod_lt _ (Nat.two_pow_pos n)
  have h3 : b = 2 ^ (n + 1) * (b / 2 ^ (n + 1)) + b % 2 ^ (n + 1) := (Nat.div_add_mod _ _).symm
  generalize b % 2 ^ (n + 1) = lo at h1 h3
  generalize b / 2 ^ (n + 1) = hi at h3
  have h4 : lo < 2 ^ (n + 1) := Nat.lt_of_lt_of_le h1 (Nat.pow_le_pow_right (by decide) (by omega))
  have h5 : 2 ^ n + lo < 2 ^ (n + 1) := by rw [Nat.pow_succ]; omega
  have h6 : 2 ^ n + lo = 2 ^ n ||| lo := by
    have := Nat.two_pow_add_eq_or_of_lt h1 1
    rwa [Nat.mul_one] at this
  rw [h3, Nat.add_assoc, Nat.add_comm lo, Nat.two_pow_add_eq_or_of_lt h5, Nat.two_pow_add_eq_or_of_lt h4, h6, Nat.or_assoc, Nat.or_comm lo]

theorem or_of_lt (acc m : Nat) (h : acc < 2 ^ m) : acc + 2 ^ m = acc ||| 2 ^ m := or_of_clear acc m (Nat.testBit_lt_two_pow h)

theorem dbl (n : Nat) (h : n < 63) : IntKind.u64.wrap (((2 ^ n : Nat) : Int) * 2) = ((2 ^ (n + 1) : Nat) : Int) := by
  have e : (((2 ^ n : Nat) : Int) * 2) = ((2 ^ (n + 1) : Nat) : Int) := by rw [Nat.pow_succ]; push_cast; rfl
  rw [e]
  exact wraps_u64 _ (Int.natCast_nonneg _) (by exact_mod_cast pow_small (n + 1) (by omega))

theorem add_u64 {a b c : Nat} (h : a + b = c) (hc : c < 2 ^ 64) : IntKind.u64.wrap ((a : Int) + (b : Int)) = (c : Int) := by
  rw [← Int.natCast_add, h]
  exact wraps_u64 _ (Int.natCast_nonneg _) (by exact_mod_cast hc)

theorem mark_down (d : Nat) : ∀ (k n i top : Nat) (any : Bool) (ep : Int) (b : Nat), top < 4294967296 → i + d = top → n + d < 64 → b < 2 ^ 64 → b.testBit (n + d) = false → d < k →
    annuletref20_Mark.l0 k ((2 ^ n : Nat) : Int) i any ep top b = some (any, ep, (top : Int), ((b ||| 2 ^ (n + d) : Nat) : Int)) := by
  induction d with
  | zero =>
    intro k n i top any ep b ht hi hn hb hc hk
    obtain ⟨k, rfl⟩ : ∃ m, k = m + 1 := ⟨k - 1, by omega⟩
    simp only [annuletref20_Mark.l0]
    rw [if_neg (by omega), Nat.add_zero, add_u64 (or_of_clear b n hc) (or_lt hb (pow_small n hn))]
  | succ d ih =>
    intro k n i top any ep b ht hi hn hb hc hk
    obtain ⟨k, rfl⟩ : ∃ m, k = m + 1 := ⟨k - 1, by omega⟩
    simp only [annuletref20_Mark.l0]
    rw [if_pos (by omega), dbl n (by omega), show ((i : Int) + 1) % 4294967296 = ((i + 1 : Nat) : Int) by omega,
      ih k (n + 1) (i + 1) top any ep b ht (by omega) (by omega) hb (by rw [show n + 1 + d = n + (d + 1) by omega]; exact hc) (by omega), show n + 1 + d = n + (d + 1) by omega]

/-- Is the bit j of the bits behind a greater number 1, as the reference tells it? -/
def rb (top b i j : Nat) : Bool := j == 0 || (decide (j ≤ i) && (decide (i - j ≤ top) && (decide (top - (i - j) < 64) && has b (top - (i - j)))))

theorem mark_up (d : Nat) : ∀ (k m acc e i top : Nat) (any : Bool) (ep : Int) (b : Nat), top < 4294967296 → i < 4294967296 → b < 2 ^ 64 → 1 ≤ m → m + d = 64 → acc < 2 ^ m → (∀ j, j < m → acc.testBit j = rb top b i j) → d + 65 < k →
    ∃ B : Nat, B < 2 ^ 64 ∧ (∀ j, j < 64 → B.testBit j = rb top b i j) ∧ annuletref20_Mark.l1 k e i acc ((2 ^ (m - 1) : Nat) : Int) m any ep top b = some (true, (e : Int), (i : Int), (B : Int)) := by
  induction d with
  | zero =>
    intro k m acc e i top any ep b ht hi hb hm hd ha hj hk
    obtain ⟨k, rfl⟩ : ∃ m, k = m + 1 := ⟨k - 1, by omega⟩
    obtain rfl : m = 64 := by omega
    refine ⟨acc, ha, hj, ?_⟩
    simp only [annuletref20_Mark.l1]
    rw [if_neg (by omega)]
  | succ d ih =>
    intro k m acc e i top any ep b ht hi hb hm hd ha hj hk
    obtain ⟨k, rfl⟩ : ∃ m, k = m + 1 := ⟨k - 1, by omega⟩
    have hd1 : IntKind.u64.wrap (((2 ^ (m - 1) : Nat) : Int) * 2) = ((2 ^ m : Nat) : Int) := by
      have := dbl (m - 1) (by omega)
      rwa [show m - 1 + 1 = m by omega] at this
    have hm1 : ((m : Int) + 1) % 4294967296 = ((m + 1 : Nat) : Int) := by omega
    have hgrow : acc < 2 ^ (m + 1) := Nat.lt_of_lt_of_le ha (Nat.pow_le_pow_right (by decide) (by omega))
    have hbit : acc.testBit m = false := Nat.testBit_lt_two_pow ha
    have skip : rb top b i m = false → ∃ B : Nat, B < 2 ^ 64 ∧ (∀ j, j < 64 → B.testBit j = rb top b i j) ∧ annuletref20_Mark.l1 k e i acc ((2 ^ m : Nat) : Int) ((m + 1 : Nat) : Int) any ep top b = some (true, (e : Int), (i : Int), (B : Int)) := by
      intro hr
      have := ih k (m + 1) acc e i top any ep b ht hi hb (by omega) (by omega) hgrow (fun j hj' => by
        rcases Nat.lt_or_ge j m with h | h
        · exact hj j h
        · obtain rfl : j = m := by omega
          rw [hbit, hr]) (by omega)
      exact this
    simp only [annuletref20_Mark.l1]
    rw [if_pos (by omega), hd1, hm1]
    have hm0 : (m == 0) = false := by simp; omega
    by_cases h1 : m ≤ i
    · rw [if_pos (by omega), show (((i : Int) - m) % 4294967296) = ((i - m : Nat) : Int) by omega]
      by_cases h2 : i - m ≤ top
      · rw [if_pos (by omega), show (((top : Int) - ((i - m : Nat) : Int)) % 4294967296) = ((top - (i - m) : Nat) : Int) by omega]
        by_cases h3 : top - (i - m) < 64
        · rw [if_pos (by omega), ref_bit k any ep top b (i - m) ht hb h2 (by omega), Option.bind_some]
          cases h4 : has b (top - (i - m)) with
          | true =>
            rw [if_pos rfl, add_u64 (or_of_lt acc m ha) (or_lt (Nat.lt_of_lt_of_le ha (Nat.pow_le_pow_right (by decide) (by omega))) (pow_small m (by omega)))]
            have := ih k (m + 1) (acc ||| 2 ^ m) e i top any ep b ht hi hb (by omega) (by omega) (Nat.or_lt_two_pow hgrow (Nat.pow_lt_pow_right (by decide) (by omega))) (fun j hj' => by
              rw [Nat.testBit_or, Nat.testBit_two_pow]
              rcases Nat.lt_or_ge j m with h | h
              · rw [hj j h, decide_eq_false (by omega), Bool.or_false]
              · obtain rfl : j = m := by omega
                rw [hbit]
                simp [rb, h1, h2, h3, h4]) (by omega)
            exact this
          | false =>
            rw [if_neg (by simp)]
            exact skip (by simp [rb, h4, hm0])
        · rw [if_neg (by omega)]
          exact skip (by simp [rb, h3, hm0])
      · rw [if_neg (by omega)]
        exact skip (by simp [rb, h2, hm0])
    · rw [if_neg (by omega)]
      exact skip (by simp [rb, h1, hm0])

/-- Bits that stand for numbers below 0 are 0, or there are none. -/
def Tidy (top b : Nat) : Prop := 64 ≤ top ∨ ∀ n, top < n → b.testBit n = false

theorem has_tidy {top b n : Nat} (h : Tidy top b) (hn : top < n) (hn2 : n < 64) : has b n = false := by
  unfold has
  rcases h with h | h
  · omega
  · rw [h n hn]
    simp
    omega

theorem sb_is_rb {top b i B : Nat} (h : Tidy top b) (hi : i > top) (hB : B < 2 ^ 64) (hb : ∀ j, j < 64 → B.testBit j = rb top b i j) : B = sb b (i - top) := by
  refine Nat.eq_of_testBit_eq fun j => ?_
  rcases Nat.lt_or_ge j 64 with hj | hj
  · rw [hb j hj, sb_bit b _ j hj]
    unfold rb
    cases h0 : (j == 0) with
    | true => rfl
    | false =>
      simp only [Bool.false_or]
      have h0' : j ≠ 0 := by simpa using h0
      by_cases h1 : i - top ≤ j
      · by_cases h2 : j ≤ i
        · rw [decide_eq_true h1, decide_eq_true h2, decide_eq_true (show i - j ≤ top by omega), decide_eq_true (show top - (i - j) < 64 by omega), show top - (i - j) = j - (i - top) by omega]
          rfl
        · rw [decide_eq_false h2, has_tidy h (show top < j - (i - top) by omega) (by omega)]
          simp
      · rw [decide_eq_false h1]
        by_cases h2 : j ≤ i
        · rw [decide_eq_false (show ¬ i - j ≤ top by omega)]
          simp
        · omega
  · rw [Nat.testBit_lt_two_pow (Nat.lt_of_lt_of_le hB (Nat.pow_le_pow_right (by decide) hj)), Nat.testBit_lt_two_pow (Nat.lt_of_lt_of_le (sb_lt _ _) (Nat.pow_le_pow_right (by decide) hj))]

/-- The reference's Mark: the same, but for bits below number 0. -/
theorem ref_mark (k : Nat) (hk : 200 ≤ k) (any : Bool) (ep top b e i : Nat) (ht : top < 4294967296) (hi : i < 4294967296) (hb : b < 2 ^ 64) :
    ∃ B : Nat, annuletref20_Mark.f k any ep top b e i = some (up ((mk any ep top b e i).1, (mk any ep top b e i).2.1, (mk any ep top b e i).2.2.1, B)) ∧ (any = false ∨ Tidy top b → B = (mk any ep top b e i).2.2.2) := by
  unfold annuletref20_Mark.f
  rw [ref_fresh k (by omega) any ep top b e i ht hb, Option.bind_some]
  unfold mk
  by_cases h0 : fr any ep top b e i ≠ 0
  · rw [if_neg h0, if_pos h0]
    exact ⟨b, rfl, fun _ => rfl⟩
  have h0' : fr any ep top b e i = 0 := by simpa using h0
  rw [if_pos h0', if_neg h0]
  obtain ⟨k, rfl⟩ : ∃ m, k = m + 1 := ⟨k - 1, by omega⟩
  by_cases h1 : any = false
  · rw [if_neg (by simp [h1]), if_pos h1]
    exact ⟨1, rfl, fun _ => rfl⟩
  rw [if_pos (by simpa using h1), if_neg h1]
  by_cases h2 : e > ep
  · rw [if_pos h2, decide_eq_true (by omega)]
    exact ⟨1, rfl, fun _ => rfl⟩
  rw [if_neg h2, decide_eq_false (by omega)]
  simp only [annuletref20_Mark.j0]
  rw [if_neg (by simp)]
  have hee : (i > top) ∨ (i ≤ top ∧ top - i < 64 ∧ has b (top - i) = false) := by
    rcases fr_zero h0' with h | h | h | h
    · exact absurd h h1
    · omega
    · exact .inl h.2
    · exact .inr h.2
  have hep : e = ep := by
    rcases fr_zero h0' with h | h | h | h
    · exact absurd h h1
    · omega
    · exact h.1
    · exact h.1
  have han : any = true := by simpa using h1
  by_cases h4 : i > top
  · rw [if_neg (by omega), if_pos h4]
    obtain ⟨B, hB, hj, hl⟩ := mark_up 63 k 1 1 e i top any ep b ht hi hb (by omega) (by omega) (by decide) (fun j hj => by
      obtain rfl : j = 0 := by omega
      rfl) (by omega)
    refine ⟨B, ?_, fun ho => ?_⟩
    · subst hep han
      exact hl
    · rcases ho with ho | ho
      · exact absurd ho h1
      · exact sb_is_rb ho h4 hB hj
  · obtain ⟨h5, h6, h7⟩ : i ≤ top ∧ top - i < 64 ∧ has b (top - i) = false := by
      rcases hee with h | h
      · omega
      · exact h
    have h8 : b.testBit (0 + (top - i)) = false := by
      unfold has at h7
      simp only [Bool.or_eq_false_iff] at h7
      rw [Nat.zero_add]
      exact h7.2
    have h9 : i ≠ top := by
      rintro rfl
      simp [has] at h7
    rw [if_pos (by omega), if_neg h4]
    have := mark_down (top - i) k 0 i top any ep b ht (by omega) (by omega) hb h8 (by omega)
    rw [Nat.zero_add] at this
    exact ⟨b ||| 2 ^ (top - i), this, fun _ => rfl⟩

/-! ### What marks keep -/
theorem mk_bounds {any : Bool} {ep top b e i : Nat} (he : ep < 4294967296) (ht : top < 4294967296) (hb : b < 2 ^ 64) (he' : e < 4294967296) (hi : i < 4294967296) :
    (mk any ep top b e i).2.1 < 4294967296 ∧ (mk any ep top b e i).2.2.1 < 4294967296 ∧ (mk any ep top b e i).2.2.2 < 2 ^ 64 := by
  unfold mk
  by_cases h0 : fr any ep top b e i ≠ 0
  · rw [if_pos h0]; exact ⟨he, ht, hb⟩
  have h0' : fr any ep top b e i = 0 := by simpa using h0
  rw [if_neg h0]
  by_cases h1 : any = false
  · rw [if_pos h1]; exact ⟨he', hi, by show 1 < 2 ^ 64; decide⟩
  rw [if_neg h1]
  by_cases h2 : e > ep
  · rw [if_pos h2]; exact ⟨he', hi, by show 1 < 2 ^ 64; decide⟩
  rw [if_neg h2]
  by_cases h4 : i > top
  · rw [if_pos h4]; exact ⟨he, hi, sb_lt _ _⟩
  rw [if_neg h4]
  refine ⟨he, ht, or_lt hb (pow_small _ ?_)⟩
  rcases fr_zero h0' with h | h | h | h
  · exact absurd h h1
  · omega
  · omega
  · exact h.2.2.1

theorem one_tidy (i : Nat) : Tidy i 1 := .inr fun n hn => Nat.testBit_lt_two_pow (Nat.one_lt_two_pow (by omega))

theorem mk_tidy {any : Bool} {ep top b e i : Nat} (h : any = false ∨ Tidy top b) : (mk any ep top b e i).1 = false ∨ Tidy (mk any ep top b e i).2.2.1 (mk any ep top b e i).2.2.2 := by
  unfold mk
  by_cases h0 : fr any ep top b e i ≠ 0
  · rw [if_pos h0]; exact h
  rw [if_neg h0]
  by_cases h1 : any = false
  · rw [if_pos h1]; exact .inr (one_tidy i)
  rw [if_neg h1]
  have ht : Tidy top b := h.resolve_left h1
  by_cases h2 : e > ep
  · rw [if_pos h2]; exact .inr (one_tidy i)
  rw [if_neg h2]
  by_cases h4 : i > top
  · rw [if_pos h4]
    right
    show Tidy i (sb b (i - top))
    rcases ht with ht | ht
    · exact .inl (by omega)
    · rcases Nat.lt_or_ge i 64 with h5 | h5
      · right
        intro n hn
        rcases Nat.lt_or_ge n 64 with hn6 | hn6
        · rw [sb_bit b _ n hn6, has_tidy (.inr ht) (show top < n - (i - top) by omega) (by omega)]
          simp; omega
        · exact Nat.testBit_lt_two_pow (Nat.lt_of_lt_of_le (sb_lt _ _) (Nat.pow_le_pow_right (by decide) hn6))
      · exact .inl h5
  · rw [if_neg h4]
    right
    show Tidy top (b ||| 2 ^ (top - i))
    rcases ht with ht | ht
    · exact .inl ht
    · right
      intro n hn
      rw [Nat.testBit_or, ht n hn, Nat.testBit_two_pow, decide_eq_false (by omega)]
      rfl

theorem mk_any {any : Bool} {ep top b e i : Nat} : (mk any ep top b e i).1 = true := by
  unfold mk
  by_cases h0 : fr any ep top b e i ≠ 0
  · rw [if_pos h0]
    show any = true
    cases any with
    | true => rfl
    | false => exact absurd rfl h0
  · have h0' : fr any ep top b e i = 0 := by simpa using h0
    rw [if_neg h0]
    by_cases h1 : any = false
    · rw [if_pos h1]
    rw [if_neg h1]
    have : any = true := by simpa using h1
    subst this
    split
    · rfl
    · split <;> rfl

/-- The state after one more mark. -/
def frs (s : Bool × Nat × Nat × Nat) (e i : Nat) : Int := fr s.1 s.2.1 s.2.2.1 s.2.2.2 e i
def mks (s : Bool × Nat × Nat × Nat) (e i : Nat) : Bool × Nat × Nat × Nat := mk s.1 s.2.1 s.2.2.1 s.2.2.2 e i

/-- A number that is not fresh. -/
theorem stale_iff (ep top b e i : Nat) : fr true ep top b e i ≠ 0 ↔ (e < ep ∨ (e = ep ∧ i ≤ top ∧ (64 ≤ top - i ∨ has b (top - i) = true))) := by
  unfold fr
  rw [if_neg (by simp)]
  by_cases h2 : e > ep
  · rw [if_pos h2]
    simp
    omega
  rw [if_neg h2]
  by_cases h3 : e < ep
  · rw [if_pos h3]; simp [h3]
  rw [if_neg h3]
  obtain rfl : e = ep := by omega
  by_cases h4 : i > top
  · rw [if_pos h4]
    simp
    omega
  rw [if_neg h4]
  by_cases h5 : 64 ≤ top - i
  · rw [if_pos h5]; simp [h5]; omega
  rw [if_neg h5]
  by_cases h6 : has b (top - i) = true
  · rw [if_pos h6]; simp [h6]; omega
  · rw [if_neg h6]; simp [h6, h5]

theorem has_more {b n m : Nat} (h : has b n = true) : has (b ||| 2 ^ m) n = true := by
  unfold has at *
  rw [Nat.testBit_or]
  cases h1 : (n == 0) with
  | true => rfl
  | false =>
    rw [h1] at h
    simp only [Bool.false_or] at h ⊢
    rw [h]; rfl

/-- What was marked is not fresh. -/
theorem marked (s : Bool × Nat × Nat × Nat) (e i : Nat) : frs (mks s e i) e i ≠ 0 := by
  obtain ⟨any, ep, top, b⟩ := s
  have ha := mk_any (any := any) (ep := ep) (top := top) (b := b) (e := e) (i := i)
  show fr (mk any ep top b e i).1 (mk any ep top b e i).2.1 (mk any ep top b e i).2.2.1 (mk any ep top b e i).2.2.2 e i ≠ 0
  rw [ha]
  unfold mk
  by_cases h0 : fr any ep top b e i ≠ 0
  · rw [if_pos h0]
    cases any with
    | true => exact h0
    | false => exact absurd rfl h0
  have h0' : fr any ep top b e i = 0 := by simpa using h0
  rw [if_neg h0]
  rw [stale_iff]
  by_cases h1 : any = false
  · rw [if_pos h1]; exact .inr ⟨rfl, Nat.le_refl _, .inr (by simp [has])⟩
  rw [if_neg h1]
  by_cases h2 : e > ep
  · rw [if_pos h2]; exact .inr ⟨rfl, Nat.le_refl _, .inr (by simp [has])⟩
  rw [if_neg h2]
  have hep : e = ep := by
    rcases fr_zero h0' with h | h | h | h
    · exact absurd h h1
    · omega
    · exact h.1
    · exact h.1
  by_cases h4 : i > top
  · rw [if_pos h4]; exact .inr ⟨hep, Nat.le_refl _, .inr (by simp [has])⟩
  rw [if_neg h4]
  refine .inr ⟨hep, by show i ≤ top; omega, .inr ?_⟩
  show has (b ||| 2 ^ (top - i)) (top - i) = true
  unfold has
  rw [Nat.testBit_or, Nat.testBit_two_pow]
  simp

/-- What is not fresh stays so. -/
theorem stays (s : Bool × Nat × Nat × Nat) (e i e' i' : Nat) (h : frs s e i ≠ 0) : frs (mks s e' i') e i ≠ 0 := by
  obtain ⟨any, ep, top, b⟩ := s
  have ha := mk_any (any := any) (ep := ep) (top := top) (b := b) (e := e') (i := i')
  have hA : any = true := by
    cases any with
    | true => rfl
    | false => exact absurd rfl h
  subst hA
  show fr (mk true ep top b e' i').1 (mk true ep top b e' i').2.1 (mk true ep top b e' i').2.2.1 (mk true ep top b e' i').2.2.2 e i ≠ 0
  rw [ha, stale_iff]
  have h' : e < ep ∨ (e = ep ∧ i ≤ top ∧ (64 ≤ top - i ∨ has b (top - i) = true)) := (stale_iff _ _ _ _ _).1 h
  unfold mk
  by_cases h0 : fr true ep top b e' i' ≠ 0
  · rw [if_pos h0]; exact h'
  have h0' : fr true ep top b e' i' = 0 := by simpa using h0
  rw [if_neg h0, if_neg (by simp)]
  by_cases h2 : e' > ep
  · rw [if_pos h2]
    show e < e' ∨ _
    left
    rcases h' with h' | h' <;> omega
  rw [if_neg h2]
  by_cases h4 : i' > top
  · rw [if_pos h4]
    show e < ep ∨ (e = ep ∧ i ≤ i' ∧ (64 ≤ i' - i ∨ has (sb b (i' - top)) (i' - i) = true))
    rcases h' with h' | ⟨h5, h6, h7⟩
    · exact .inl h'
    · refine .inr ⟨h5, by omega, ?_⟩
      by_cases h8 : 64 ≤ i' - i
      · exact .inl h8
      · right
        have h9 := h7.resolve_left (by omega)
        unfold has
        rw [sb_bit b _ _ (by omega), decide_eq_true (show i' - top ≤ i' - i by omega), show i' - i - (i' - top) = top - i by omega, h9]
        simp
  · rw [if_neg h4]
    show e < ep ∨ (e = ep ∧ i ≤ top ∧ (64 ≤ top - i ∨ has (b ||| 2 ^ (top - i')) (top - i) = true))
    rcases h' with h' | ⟨h5, h6, h7⟩
    · exact .inl h'
    · refine .inr ⟨h5, h6, ?_⟩
      rcases h7 with h7 | h7
      · exact .inl h7
      · exact .inr (has_more h7)

#print axioms ref_mark
#print axioms stays
#print axioms marked
end Go.Proofs.Ytnkgniokppafhaa.SeenQ
