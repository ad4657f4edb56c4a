/- Mine. Chapter 31, by hand: what the references' comparisons and the tests of size answer; their contracts, turned to nodes. -/
import Derived.Test.YtcnkmajengephaaHB
import Derived.Test.YtcnkmajengephaaPx9
import Derived.Test.YtcnkmajengephaaPx14
namespace Go.Proofs.Ytcnkmajengephaa.H
open Go Go.Proofs Go.RowKit Go.Lib Go.Proofs.Ytcnkmajengephaa.P Go.Proofs.YtcnkmajengephaaW.PrintWords Go.Proofs.YtcnkmajengephaaW.PrintLast Go.Proofs.YtcnkmajengephaaW.PrintMore
set_option linter.unusedVariables false
set_option linter.unusedSimpArgs false
theorem annuletref30_Pends_refl (l : List S78) (hl : l.length ≤ 100000) : ∀ K j : Nat, j ≤ l.length → l.length - j < K → annuletref30_Pends.l0 K l l j = some true
  | 0, j, hj, hk => by omega
  | K + 1, j, hj, hk => by
    rw [annuletref30_Pends.l0]
    by_cases h : j < l.length
    · have hw : wrap64 ((j : Int) + 1) = ((j + 1 : Nat) : Int) := by unfold wrap64; omega
      rw [if_pos (by omega), if_pos (by omega), if_pos (by omega), if_neg (by simp), hw]
      exact annuletref30_Pends_refl l hl K (j + 1) (by omega) (by omega)
    · rw [if_neg (by omega)]
theorem annuletref30_Pends_same (l : List S78) (hl : l.length ≤ 100000) (K : Nat) (hK : l.length < K) : annuletref30_Pends.f K l l = some true := by
  unfold annuletref30_Pends.f
  rw [if_pos rfl]
  exact annuletref30_Pends_refl l hl K 0 (by omega) (by omega)
theorem annuletref27_Same_refl (l : List S71) (hl : l.length ≤ 100000) : ∀ K j : Nat, j ≤ l.length → l.length - j < K → annuletref27_Same.l0 K l l j = some true
  | 0, j, hj, hk => by omega
  | K + 1, j, hj, hk => by
    rw [annuletref27_Same.l0]
    by_cases h : j < l.length
    · have hw : wrap64 ((j : Int) + 1) = ((j + 1 : Nat) : Int) := by unfold wrap64; omega
      rw [if_pos (by omega), if_pos (by omega), if_pos (by omega), if_neg (by simp), hw]
      exact annuletref27_Same_refl l hl K (j + 1) (by omega) (by omega)
    · rw [if_neg (by omega)]
theorem annuletref27_Same_same (l : List S71) (hl : l.length ≤ 100000) (K : Nat) (hK : l.length < K) : annuletref27_Same.f K l l = some true := by
  unfold annuletref27_Same.f
  rw [if_pos rfl]
  exact annuletref27_Same_refl l hl K 0 (by omega) (by omega)
theorem annuletref28_Same_refl (l : List S74) (hl : l.length ≤ 100000) : ∀ K j : Nat, j ≤ l.length → l.length - j < K → annuletref28_Same.l0 K l l j = some true
  | 0, j, hj, hk => by omega
  | K + 1, j, hj, hk => by
    rw [annuletref28_Same.l0]
    by_cases h : j < l.length
    · have hw : wrap64 ((j : Int) + 1) = ((j + 1 : Nat) : Int) := by unfold wrap64; omega
      rw [if_pos (by omega), if_pos (by omega), if_pos (by omega), if_neg (by simp), hw]
      exact annuletref28_Same_refl l hl K (j + 1) (by omega) (by omega)
    · rw [if_neg (by omega)]
theorem annuletref28_Same_same (l : List S74) (hl : l.length ≤ 100000) (K : Nat) (hK : l.length < K) : annuletref28_Same.f K l l = some true := by
  unfold annuletref28_Same.f
  rw [if_pos rfl]
  exact annuletref28_Same_refl l hl K 0 (by omega) (by omega)
theorem annuletref08_Pairs_refl (l : List S68) (hl : l.length ≤ 100000) : ∀ K j : Nat, j ≤ l.length → l.length - j < K → annuletref08_Pairs.l0 K l l j = some true
  | 0, j, hj, hk => by omega
  | K + 1, j, hj, hk => by
    rw [annuletref08_Pairs.l0]
    by_cases h : j < l.length
    · have hw : wrap64 ((j : Int) + 1) = ((j + 1 : Nat) : Int) := by unfold wrap64; omega
      rw [if_pos (by omega), if_pos (by omega), if_pos (by omega), if_neg (by simp), hw]
      exact annuletref08_Pairs_refl l hl K (j + 1) (by omega) (by omega)
    · rw [if_neg (by omega)]
theorem annuletref08_Pairs_same (l : List S68) (hl : l.length ≤ 100000) (K : Nat) (hK : l.length < K) : annuletref08_Pairs.f K l l = some true := by
  unfold annuletref08_Pairs.f
  rw [if_pos rfl]
  exact annuletref08_Pairs_refl l hl K 0 (by omega) (by omega)
theorem jobs_l1_refl (n : ND) (h9 : n.l9.length ≤ 1000) (h10 : n.l10.length ≤ 1000) : ∀ K j : Nat, j ≤ n.l10.length → n.l10.length - j + 0 < K → annuletref30_jobs.l1 K j n.a0 n.a1 n.a2 n.a3 n.l4 n.l5 n.l6 n.l7 n.l8 n.l9 n.l10 n.a11 n.a12 n.a13 n.a0 n.a1 n.a2 n.a3 n.l4 n.l5 n.l6 n.l7 n.l8 n.l9 n.l10 n.a11 n.a12 n.a13 = some true
  | 0, j, hj, hk => by omega
  | K + 1, j, hj, hk => by
    rw [annuletref30_jobs.l1]
    by_cases h : j < n.l10.length
    · have hw : wrap64 ((j : Int) + 1) = ((j + 1 : Nat) : Int) := by unfold wrap64; omega
      rw [if_pos (by omega), if_pos (by omega), if_pos (by omega), if_neg (by simp), hw]
      exact jobs_l1_refl n h9 h10 K (j + 1) (by omega) (by omega)
    · rw [if_neg (by omega)]
theorem jobs_l0_refl (n : ND) (h9 : n.l9.length ≤ 1000) (h10 : n.l10.length ≤ 1000) : ∀ K j : Nat, j ≤ n.l9.length → n.l9.length - j + n.l10.length + 1 < K → annuletref30_jobs.l0 K j n.a0 n.a1 n.a2 n.a3 n.l4 n.l5 n.l6 n.l7 n.l8 n.l9 n.l10 n.a11 n.a12 n.a13 n.a0 n.a1 n.a2 n.a3 n.l4 n.l5 n.l6 n.l7 n.l8 n.l9 n.l10 n.a11 n.a12 n.a13 = some true
  | 0, j, hj, hk => by omega
  | K + 1, j, hj, hk => by
    rw [annuletref30_jobs.l0]
    by_cases h : j < n.l9.length
    · have hw : wrap64 ((j : Int) + 1) = ((j + 1 : Nat) : Int) := by unfold wrap64; omega
      rw [if_pos (by omega), if_pos (by omega), if_pos (by omega), if_neg (by simp), hw]
      exact jobs_l0_refl n h9 h10 K (j + 1) (by omega) (by omega)
    · rw [if_neg (by omega)]
      exact jobs_l1_refl n h9 h10 K 0 (by omega) (by omega)
theorem jobs_same (n : ND) (h9 : n.l9.length ≤ 1000) (h10 : n.l10.length ≤ 1000) (K : Nat) (hK : n.l9.length + n.l10.length + 3 < K) : annuletref30_jobs.f K n.a0 n.a1 n.a2 n.a3 n.l4 n.l5 n.l6 n.l7 n.l8 n.l9 n.l10 n.a11 n.a12 n.a13 n.a0 n.a1 n.a2 n.a3 n.l4 n.l5 n.l6 n.l7 n.l8 n.l9 n.l10 n.a11 n.a12 n.a13 = some true := by
  obtain ⟨K, rfl⟩ : ∃ k, K = k + 1 := ⟨K - 1, by omega⟩
  unfold annuletref30_jobs.f
  rw [if_pos rfl, annuletref30_jobs.j0, if_neg (by simp)]
  exact jobs_l0_refl n h9 h10 K 0 (by omega) (by omega)
/-- Rows that are not too many to be compared. -/
structure NL (n : ND) : Prop where
  m4 : n.l4.length ≤ 1000
  m5 : n.l5.length ≤ 1000
  m6 : n.l6.length ≤ 1000
  m7 : n.l7.length ≤ 1000
  m8 : n.l8.length ≤ 1000
  m9 : n.l9.length ≤ 1000
  m10 : n.l10.length ≤ 1000
theorem same_f (n : ND) (h : NL n) : annuletref30_Same.f 5000 n.a0 n.a1 n.a2 n.a3 n.l4 n.l5 n.l6 n.l7 n.l8 n.l9 n.l10 n.a11 n.a12 n.a13 n.a0 n.a1 n.a2 n.a3 n.l4 n.l5 n.l6 n.l7 n.l8 n.l9 n.l10 n.a11 n.a12 n.a13 = some true := by
  have h1 := annuletref27_Same_same n.l4 (by have := h.m4; omega) 4999 (by have := h.m4; omega)
  have h2 := annuletref27_Same_same n.l5 (by have := h.m5; omega) 4999 (by have := h.m5; omega)
  have h3 := annuletref28_Same_same n.l6 (by have := h.m6; omega) 4999 (by have := h.m6; omega)
  have h4 := annuletref08_Pairs_same n.l7 (by have := h.m7; omega) 4998 (by have := h.m7; omega)
  have h5 := annuletref30_Pends_same n.l8 (by have := h.m8; omega) 4998 (by have := h.m8; omega)
  have h6 := jobs_same n h.m9 h.m10 4998 (by have := h.m9; have := h.m10; omega)
  unfold annuletref30_Same.f
  rw [if_neg (by simp), if_pos rfl, if_neg (by simp), if_pos rfl, if_pos rfl]
  show annuletref30_Same.j0 (4999 + 1) _ n.a0 n.a1 n.a2 n.a3 n.l4 n.l5 n.l6 n.l7 n.l8 n.l9 n.l10 n.a11 n.a12 n.a13 n.a0 n.a1 n.a2 n.a3 n.l4 n.l5 n.l6 n.l7 n.l8 n.l9 n.l10 n.a11 n.a12 n.a13 = _
  rw [annuletref30_Same.j0, if_neg (by simp), h1, Option.bind_some, if_pos rfl, h2, Option.bind_some, if_pos rfl, h3, Option.bind_some]
  show annuletref30_Same.j1 (4998 + 1) _ n.a0 n.a1 n.a2 n.a3 n.l4 n.l5 n.l6 n.l7 n.l8 n.l9 n.l10 n.a11 n.a12 n.a13 n.a0 n.a1 n.a2 n.a3 n.l4 n.l5 n.l6 n.l7 n.l8 n.l9 n.l10 n.a11 n.a12 n.a13 = _
  rw [annuletref30_Same.j1, if_neg (by simp), h4, Option.bind_some, if_pos rfl, h5, Option.bind_some, if_pos rfl, h6]
  rfl
theorem same_ok (n : ND) (s s' : NA) (w : World) (h : NC w n s) (h' : NC w n s') (hl : NL n) : Calls Try.prog 10 #[nv n s, nv n s'] w fun e w' => e = .returned (.bool true) ∧ Below w.heap.size w w' :=
  annuletref30_Same.calls 5000 n.a0 n.a1 n.a2 n.a3 s.A4 s.c4 n.l4 s.A5 s.c5 n.l5 s.A6 s.c6 n.l6 s.A7 s.c7 n.l7 s.A8 s.c8 n.l8 s.A9 s.c9 n.l9 s.A10 s.c10 n.l10 n.a11 n.a12 n.a13 n.a0 n.a1 n.a2 n.a3 s'.A4 s'.c4 n.l4 s'.A5 s'.c5 n.l5 s'.A6 s'.c6 n.l6 s'.A7 s'.c7 n.l7 s'.A8 s'.c8 n.l8 s'.A9 s'.c9 n.l9 s'.A10 s'.c10 n.l10 n.a11 n.a12 n.a13 true w h.r4 h.q4 h.r5 h.q5 h.r6 h.q6 h.r7 h.q7 h.r8 h.q8 h.r9 h.q9 h.r10 h.q10 h'.r4 h'.q4 h'.r5 h'.q5 h'.r6 h'.q6 h'.r7 h'.q7 h'.r8 h'.q8 h'.r9 h'.q9 h'.r10 h'.q10 (same_f n hl)
theorem pends_ok (l : List S78) (A A' : Option Addr) (c c' : Nat) (w : World) (h : Kd.C k78 w A l.length l) (hc : l.length ≤ c) (h' : Kd.C k78 w A' l.length l) (hc' : l.length ≤ c') (hl : l.length ≤ 1000) : Calls Try.prog 28 #[.slice A l.length c, .slice A' l.length c'] w fun e w' => e = .returned (.bool true) ∧ Below w.heap.size w w' := by
  refine (annuletref30_Pends.calls 2000 A c l A' c' l true w h hc h' hc' (annuletref30_Pends_same l (by omega) 2000 (by omega))).mono ?_
  rintro e w' ⟨rfl, hd⟩
  exact ⟨rfl, by first | exact hd | exact hd.below⟩
/-! #### tests of size -/
theorem l29_ends (l : List S68) (hl : l.length ≤ 100) : ∀ K j : Nat, j ≤ l.length → l.length - j < K → ∃ b, annuletlaw29_Large.l0 K l j = some b
  | 0, j, hj, hk => by omega
  | K + 1, j, hj, hk => by
    rw [annuletlaw29_Large.l0]
    by_cases h : j < l.length
    · have hw : wrap64 ((j : Int) + 1) = ((j + 1 : Nat) : Int) := by unfold wrap64; omega
      rw [if_pos (by omega), if_pos (by omega), hw]
      split
      · exact ⟨_, rfl⟩
      · split
        · exact ⟨_, rfl⟩
        · exact l29_ends l hl K (j + 1) (by omega) (by omega)
    · rw [if_neg (by omega)]; exact ⟨_, rfl⟩
theorem l29_f (l : List S68) : ∃ b, annuletlaw29_Large.f 1000 l = some b ∧ (b = false → l.length ≤ 100) := by
  unfold annuletlaw29_Large.f
  by_cases h : (l.length : Int) > 100
  · rw [if_pos h]; exact ⟨true, rfl, fun h => by cases h⟩
  · rw [if_neg h]
    obtain ⟨b, hb⟩ := l29_ends l (by omega) 1000 0 (by omega) (by omega)
    exact ⟨b, hb, fun _ => by omega⟩
theorem large_l1 (n : ND) (h9 : n.l9.length ≤ 20) (h10 : n.l10.length ≤ 40) : ∀ K j : Nat, j ≤ n.l10.length → n.l10.length - j + 0 < K → ∃ b, annuletlaw30_Large.l1 K j n.a0 n.a1 n.a2 n.a3 n.l4 n.l5 n.l6 n.l7 n.l8 n.l9 n.l10 n.a11 n.a12 n.a13 = some b
  | 0, j, hj, hk => by omega
  | K + 1, j, hj, hk => by
    rw [annuletlaw30_Large.l1]
    by_cases h : j < n.l10.length
    · have hw : wrap64 ((j : Int) + 1) = ((j + 1 : Nat) : Int) := by unfold wrap64; omega
      rw [if_pos (by omega), if_pos (by omega), hw]
      split
      · exact ⟨_, rfl⟩
      · split
        · exact ⟨_, rfl⟩
        · exact large_l1 n h9 h10 K (j + 1) (by omega) (by omega)
    · rw [if_neg (by omega)]; exact ⟨_, rfl⟩
theorem large_l0 (n : ND) (h9 : n.l9.length ≤ 20) (h10 : n.l10.length ≤ 40) : ∀ K j : Nat, j ≤ n.l9.length → n.l9.length - j + n.l10.length + 1 < K → ∃ b, annuletlaw30_Large.l0 K j n.a0 n.a1 n.a2 n.a3 n.l4 n.l5 n.l6 n.l7 n.l8 n.l9 n.l10 n.a11 n.a12 n.a13 = some b
  | 0, j, hj, hk => by omega
  | K + 1, j, hj, hk => by
    rw [annuletlaw30_Large.l0]
    by_cases h : j < n.l9.length
    · have hw : wrap64 ((j : Int) + 1) = ((j + 1 : Nat) : Int) := by unfold wrap64; omega
      rw [if_pos (by omega), if_pos (by omega), hw]
      split
      · exact ⟨_, rfl⟩
      · split
        · exact ⟨_, rfl⟩
        · exact large_l0 n h9 h10 K (j + 1) (by omega) (by omega)
    · rw [if_neg (by omega)]
      exact large_l1 n h9 h10 K 0 (by omega) (by omega)
theorem large_f (n : ND) : ∃ b, annuletlaw30_Large.f 1000 n.a0 n.a1 n.a2 n.a3 n.l4 n.l5 n.l6 n.l7 n.l8 n.l9 n.l10 n.a11 n.a12 n.a13 = some b ∧ (b = false → n.l4.length ≤ 5 ∧ n.l5.length ≤ 40 ∧ n.l6.length ≤ 80 ∧ n.l7.length ≤ 100 ∧ n.l8.length ≤ 100 ∧ n.l9.length ≤ 20 ∧ n.l10.length ≤ 40) := by
  have hj : ∀ b : Bool, n.l9.length ≤ 20 → n.l10.length ≤ 40 → ∃ c, annuletlaw30_Large.j0 1000 b n.a0 n.a1 n.a2 n.a3 n.l4 n.l5 n.l6 n.l7 n.l8 n.l9 n.l10 n.a11 n.a12 n.a13 = some c ∧ (c = false → b = false) := fun b h9 h10 => by
    show ∃ c, annuletlaw30_Large.j0 (999 + 1) b n.a0 n.a1 n.a2 n.a3 n.l4 n.l5 n.l6 n.l7 n.l8 n.l9 n.l10 n.a11 n.a12 n.a13 = some c ∧ _
    rw [annuletlaw30_Large.j0]
    by_cases hb : b = true
    · rw [if_pos hb]; exact ⟨true, rfl, fun h => by cases h⟩
    · rw [if_neg hb]
      obtain ⟨c, hc⟩ := large_l0 n h9 h10 999 0 (by omega) (by omega)
      exact ⟨c, hc, fun _ => by simpa using hb⟩
  have ht : ∃ c, annuletlaw30_Large.j0 1000 true n.a0 n.a1 n.a2 n.a3 n.l4 n.l5 n.l6 n.l7 n.l8 n.l9 n.l10 n.a11 n.a12 n.a13 = some c ∧ (c = false → False) := ⟨true, by
    show annuletlaw30_Large.j0 (999 + 1) true n.a0 n.a1 n.a2 n.a3 n.l4 n.l5 n.l6 n.l7 n.l8 n.l9 n.l10 n.a11 n.a12 n.a13 = _
    rw [annuletlaw30_Large.j0, if_pos rfl], fun h => by cases h⟩
  unfold annuletlaw30_Large.f
  by_cases h4 : (n.l4.length : Int) > 5
  · rw [if_pos h4]; obtain ⟨c, hc, hf⟩ := ht; exact ⟨c, hc, fun h => (hf h).elim⟩
  rw [if_neg h4]
  by_cases h5 : (n.l5.length : Int) > 40
  · rw [if_pos h5]; obtain ⟨c, hc, hf⟩ := ht; exact ⟨c, hc, fun h => (hf h).elim⟩
  rw [if_neg h5]
  by_cases h6 : (n.l6.length : Int) > 80
  · rw [if_pos h6]; obtain ⟨c, hc, hf⟩ := ht; exact ⟨c, hc, fun h => (hf h).elim⟩
  rw [if_neg h6]
  by_cases h8 : (n.l8.length : Int) > 100
  · rw [if_pos h8]; obtain ⟨c, hc, hf⟩ := ht; exact ⟨c, hc, fun h => (hf h).elim⟩
  rw [if_neg h8]
  by_cases h9 : (n.l9.length : Int) > 20
  · rw [if_pos h9]; obtain ⟨c, hc, hf⟩ := ht; exact ⟨c, hc, fun h => (hf h).elim⟩
  rw [if_neg h9]
  by_cases h10 : (n.l10.length : Int) > 40
  · rw [if_pos h10]; obtain ⟨c, hc, hf⟩ := ht; exact ⟨c, hc, fun h => (hf h).elim⟩
  rw [if_neg h10]
  obtain ⟨b, hb, hbf⟩ := l29_f n.l7
  rw [hb]
  obtain ⟨c, hc, hcf⟩ := hj b (by omega) (by omega)
  exact ⟨c, hc, fun h => ⟨by omega, by omega, by omega, hbf (hcf h), by omega, by omega, by omega⟩⟩
theorem large_ok (n : ND) (s : NA) : ∃ b, (∀ w : World, NC w n s → Calls Try.prog 6 #[nv n s] w fun e w' => e = .returned (.bool b) ∧ Below w.heap.size w w') ∧ (b = false → NL n ∧ n.l8.length ≤ 100) := by
  obtain ⟨b, hb, hf⟩ := large_f n
  refine ⟨b, fun w h => annuletlaw30_Large.calls 1000 n.a0 n.a1 n.a2 n.a3 s.A4 s.c4 n.l4 s.A5 s.c5 n.l5 s.A6 s.c6 n.l6 s.A7 s.c7 n.l7 s.A8 s.c8 n.l8 s.A9 s.c9 n.l9 s.A10 s.c10 n.l10 n.a11 n.a12 n.a13 b w h.r4 h.q4 h.r5 h.q5 h.r6 h.q6 h.r7 h.q7 h.r8 h.q8 h.r9 h.q9 h.r10 h.q10 hb, fun h => ?_⟩
  obtain ⟨h4, h5, h6, h7, h8, h9, h10⟩ := hf h
  exact ⟨⟨by omega, by omega, by omega, by omega, by omega, by omega, by omega⟩, h8⟩
#print axioms same_ok
#print axioms large_ok
end Go.Proofs.Ytcnkmajengephaa.H
