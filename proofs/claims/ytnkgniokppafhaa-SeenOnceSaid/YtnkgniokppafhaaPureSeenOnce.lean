/- It is proved that, for every input, no number that was marked is fresh, however many numbers are marked behind it, and that the number above the greatest one of the greatest epoch is fresh. No condition. -/
import Derived.Test.YtnkgniokppafhaaPSaySeenOnce
import Derived.Test.YtnkgniokppafhaaSeen
namespace Go.Proofs.Ytnkgniokppafhaa.Pure
open Go.RowKit Go.Proofs.Ytnkgniokppafhaa.P Go.Proofs.YtnkgniokppafhaaW.PrintWords Go.Proofs.YtnkgniokppafhaaW.PrintLast Go.Proofs.Ytnkgniokppafhaa.Seen

theorem awake_is : annuletlaw20_awake.f = some true := by decide +kernel

theorem wrap_i {i : Int} {n : Nat} (h0 : 0 ≤ i) (h : i < (n : Int)) (hn : n ≤ 1000) : wrap64 (i + 1) = i + 1 := by
  unfold wrap64
  omega

theorem wf_u32 {n : Int} (h : (Lit.int .u32 n).wf = true) : ∃ m : Nat, n = m ∧ m < 4294967296 := by
  simp only [Lit.wf, Bool.and_eq_true, decide_eq_true_eq] at h
  have h1 : IntKind.u32.min = 0 := rfl
  have h2 : IntKind.u32.max = 4294967295 := rfl
  exact ⟨n.toNat, by omega, by omega⟩

theorem number (l : List S33) (hl : ∀ y ∈ l, wf33 y) (i : Nat) (hi : i < l.length) : ∃ e m : Nat, (rd_T33 l i).f0 = e ∧ (rd_T33 l i).f1 = m ∧ e < 4294967296 ∧ m < 4294967296 := by
  have hm : rd_T33 l i ∈ l := by
    unfold rd_T33
    rw [Int.toNat_natCast, List.getD_eq_getElem?_getD, List.getElem?_eq_getElem hi]
    exact List.getElem_mem hi
  obtain ⟨h1, h2⟩ := hl _ hm
  obtain ⟨e, he, he'⟩ := wf_u32 h1
  obtain ⟨m, hm, hm'⟩ := wf_u32 h2
  exact ⟨e, m, he, hm, he', hm'⟩

/-- No number that stands ahead of place i is fresh. -/
def Old (l : List S33) (i : Nat) (s : Bool × Nat × Nat × Nat) : Prop := ∀ j e m : Nat, j < i → (rd_T33 l j).f0 = e → (rd_T33 l j).f1 = m → frs s e m ≠ 0

theorem above (any : Bool) (ep top b : Nat) : fr any ep top b ep (top + 1) = 0 := by
  unfold fr
  split
  · rfl
  · rw [if_neg (by omega), if_neg (by omega), if_pos (by omega)]


theorem inner (l : List S33) (hl : ∀ y ∈ l, wf33 y) (hn : l.length ≤ 100) (d i : Nat) (s : Bool × Nat × Nat × Nat) (hi : i < l.length) (he : s.2.1 < 4294967296) (ht : s.2.2.1 < 4294967296) (hb : s.2.2.2 < 2 ^ 64) (ho : Old l i s)
    (ih : ∀ (k : Nat) (s : Bool × Nat × Nat × Nat), d * 200 + 200 < k → s.2.1 < 4294967296 → s.2.2.1 < 4294967296 → s.2.2.2 < 2 ^ 64 → Old l (i + 1) s → annuletlaw20_SeenOnce.l0 k l ((i + 1 : Nat) : Int) s.1 s.2.1 s.2.2.1 s.2.2.2 = some true) (c : Nat) :
    ∀ (k j : Nat), j + c = i → d * 200 + 201 + c < k → annuletlaw20_SeenOnce.l1 k l i j s.1 s.2.1 s.2.2.1 s.2.2.2 = some true := by
  obtain ⟨e, m, h1, h2, h3, h4⟩ := number l hl i hi
  induction c with
  | zero =>
    intro k j hj hk
    obtain ⟨k, rfl⟩ : ∃ m, k = m + 1 := ⟨k - 1, by omega⟩
    simp only [annuletlaw20_SeenOnce.l1]
    rw [if_neg (by omega), if_pos (by omega), if_pos (by omega), h1, h2, seen_mark s.1 s.2.1 s.2.2.1 s.2.2.2 e m ht h4 hb]
    have hbd := mk_bounds he ht hb h3 h4 (any := s.1)
    simp only [Option.bind_some, Seen.up]
    rw [seen_fresh _ _ _ _ e m hbd.2.1 hbd.2.2, Option.bind_some]
    refine (if_neg (marked s e m)).trans ?_
    rw [wrap_i (n := l.length) (by omega) (by omega) (by omega)]
    refine ih k (mks s e m) (by omega) hbd.1 hbd.2.1 hbd.2.2 ?_
    intro j' e' m' hj' q1 q2
    rcases Nat.lt_or_ge j' i with h | h
    · exact stays s e' m' e m (ho j' e' m' h q1 q2)
    · obtain rfl : j' = i := by omega
      have a1 : e' = e := by omega
      have a2 : m' = m := by omega
      subst a1 a2
      exact marked s e' m'
  | succ c ihc =>
    intro k j hj hk
    obtain ⟨k, rfl⟩ : ∃ m, k = m + 1 := ⟨k - 1, by omega⟩
    have hnext := ihc k (j + 1) (by omega) (by omega)
    simp only [annuletlaw20_SeenOnce.l1]
    rw [if_pos (by omega), if_pos (by omega), if_pos (by omega), if_pos (by omega), if_pos (by omega), wrap_i (n := l.length) (by omega) (by omega) (by omega)]
    by_cases hq : (((rd_T33 l j).f0) == ((rd_T33 l i).f0) && (((rd_T33 l j).f1) == ((rd_T33 l i).f1))) = true
    · rw [if_pos hq, h1, h2, seen_fresh s.1 s.2.1 s.2.2.1 s.2.2.2 e m ht hb, Option.bind_some]
      simp only [Bool.and_eq_true, beq_iff_eq] at hq
      have := ho j e m (by omega) (hq.1.trans h1) (hq.2.trans h2)
      exact (if_neg this).trans hnext
    · rw [if_neg hq]
      exact hnext

theorem outer (l : List S33) (hl : ∀ y ∈ l, wf33 y) (hn : l.length ≤ 100) (d : Nat) : ∀ (k i : Nat) (s : Bool × Nat × Nat × Nat), i + d = l.length → d * 200 + 200 < k → s.2.1 < 4294967296 → s.2.2.1 < 4294967296 → s.2.2.2 < 2 ^ 64 → Old l i s →
    annuletlaw20_SeenOnce.l0 k l i s.1 s.2.1 s.2.2.1 s.2.2.2 = some true := by
  induction d with
  | zero =>
    intro k i s hi hk he ht hb ho
    obtain ⟨k, rfl⟩ : ∃ m, k = m + 1 := ⟨k - 1, by omega⟩
    simp only [annuletlaw20_SeenOnce.l0]
    rw [if_neg (by omega), awake_is]
    by_cases h : (s.2.2.1 : Int) = 4294967295
    · rw [if_pos h]; rfl
    · rw [if_neg h, show ((s.2.2.1 : Int) + 1) % 4294967296 = ((s.2.2.1 + 1 : Nat) : Int) by omega, seen_fresh s.1 s.2.1 s.2.2.1 s.2.2.2 s.2.1 (s.2.2.1 + 1) ht hb, above _ _ _ _]
      rfl
  | succ d ih =>
    intro k i s hi hk he ht hb ho
    obtain ⟨k, rfl⟩ : ∃ m, k = m + 1 := ⟨k - 1, by omega⟩
    simp only [annuletlaw20_SeenOnce.l0]
    rw [if_pos (by omega)]
    exact inner l hl hn d i s (by omega) he ht hb ho (fun k s hk he ht hb ho => ih k (i + 1) s (by omega) hk he ht hb ho) i k 0 (by omega) (by omega)

theorem SeenOnce : annuletlaw20_SeenOnce.Pure := by
  intro l hl
  refine ⟨30000, ?_⟩
  unfold annuletlaw20_SeenOnce.f
  by_cases h : (l.length : Int) > 100
  · rw [if_pos h, awake_is]; rfl
  · rw [if_neg h]
    exact outer l hl.2 (by omega) l.length 30000 0 (false, 0, 0, 0) (by omega) (by omega) (by show 0 < 4294967296; decide) (by show 0 < 4294967296; decide) (by show 0 < 2 ^ 64; decide) (fun j _ _ hj => absurd hj (Nat.not_lt_zero j))

end Go.Proofs.Ytnkgniokppafhaa.Pure
