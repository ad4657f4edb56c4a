/- It is proved that, for every key and every list of places, the first place in the program's order is the owner's, in order the ways rise, and each place is there as often as it was. No condition. -/
import Derived.Test.YtpkodbeleefnjaaPSayRingFirst
import Derived.Test.YtpkodbeleefnjaaRingLaw
namespace Go.Proofs.Ytpkodbeleefnjaa.Pure
open Go.RowKit Go.Proofs.Ytpkodbeleefnjaa.P Go.Proofs.YtpkodbeleefnjaaW.PrintWords Go.Proofs.YtpkodbeleefnjaaW.PrintLast Go.Proofs.Ytpkodbeleefnjaa.RingLaw

theorem count_next (l : List Int) (x : Int) (j : Nat) (hj : j < l.length) : (l.take (j + 1)).count x = (l.take j).count x + if rd l (j : Int) = x then 1 else 0 := by
  rw [List.take_succ_eq_append_getElem hj, List.count_append, rd_at hj]
  congr 1
  by_cases h : l[j] = x
  · rw [if_pos h, h]; simp
  · rw [if_neg h]
    exact List.count_eq_zero.2 (by simpa using fun h' => h h'.symm)
theorem num_next {c : Nat} (h : c < 100) : wrap64 ((c : Int) + 1) = ((c + 1 : Nat) : Int) := step40 h

theorem first_inner (m : Int) (l s : List Int) (hl : l.length ≤ 40) (hp : s.Perm l) (ho : InOrder m s) (i : Nat) (hi : i < l.length) (hn : ∃ k, annuletlaw03_RingFirst.l0 k m l s ((i + 1 : Nat) : Int) = some true) : ∀ d j : Nat, j + d = l.length →
    ∃ k, annuletlaw03_RingFirst.l1 k m l s (i : Int) (((s.take j).count (rd l (i : Int)) : Nat) : Int) (((l.take j).count (rd l (i : Int)) : Nat) : Int) (j : Int) = some true
  | 0, j, hj => by
    have hsl := hp.length_eq
    obtain ⟨k, hk⟩ := hn
    refine ⟨k + 1, ?_⟩
    simp only [annuletlaw03_RingFirst.l1]
    rw [if_neg (by omega), List.take_of_length_le (by omega), List.take_of_length_le (by omega), if_pos (by rw [hp.count_eq])]
    by_cases h0 : (i : Int) > 0
    · have hw : wrap64 ((i : Int) - 1) = ((i - 1 : Nat) : Int) := by unfold wrap64; omega
      rw [if_pos h0, hw, if_pos (by omega), if_pos (by omega), ring_dist]
      simp only [Option.bind_some]
      rw [if_pos (by omega), if_pos (by omega), ring_dist]
      simp only [Option.bind_some]
      have h1 := (List.pairwise_iff_getElem.1 ho) (i - 1) i (by omega) (by omega) (by omega)
      rw [rd_at (by omega), rd_at (by omega), if_neg (by omega), step40 (by omega)]
      exact hk
    · rw [if_neg h0, step40 (by omega)]
      exact hk
  | d + 1, j, hj => by
    have hsl := hp.length_eq
    have c1 : (s.take j).count (rd l (i : Int)) ≤ 40 := Nat.le_trans List.count_le_length (by rw [List.length_take]; omega)
    have c2 : (l.take j).count (rd l (i : Int)) ≤ 40 := Nat.le_trans List.count_le_length (by rw [List.length_take]; omega)
    obtain ⟨k, hk⟩ := first_inner m l s hl hp ho i hi hn d (j + 1) (by omega)
    rw [count_next s _ j (by omega), count_next l _ j (by omega)] at hk
    refine ⟨k + 1, ?_⟩
    simp only [annuletlaw03_RingFirst.l1]
    rw [if_pos (by omega), if_pos (by omega), if_pos (by omega), if_pos (by omega)]
    by_cases h1 : rd l (j : Int) = rd l (i : Int)
    · rw [if_pos h1, if_pos (by omega)]
      rw [if_pos h1] at hk
      by_cases h2 : rd s (j : Int) = rd l (i : Int)
      · rw [if_pos h2] at hk
        rw [if_pos h2, num_next (by omega), num_next (by omega), step40 (by omega)]
        exact hk
      · rw [if_neg h2, Nat.add_zero] at hk
        rw [if_neg h2, num_next (by omega), step40 (by omega)]
        exact hk
    · rw [if_neg h1, if_pos (by omega)]
      rw [if_neg h1, Nat.add_zero] at hk
      by_cases h2 : rd s (j : Int) = rd l (i : Int)
      · rw [if_pos h2] at hk
        rw [if_pos h2, num_next (by omega), step40 (by omega)]
        exact hk
      · rw [if_neg h2, Nat.add_zero] at hk
        rw [if_neg h2, step40 (by omega)]
        exact hk
theorem first_loop (m : Int) (l s : List Int) (hl : l.length ≤ 40) (hp : s.Perm l) (ho : InOrder m s) : ∀ d i : Nat, i + d = l.length → ∃ k, annuletlaw03_RingFirst.l0 k m l s (i : Int) = some true
  | 0, i, hi => ⟨11, by
    simp only [annuletlaw03_RingFirst.l0]
    rw [if_neg (by omega), awake_is]
    rfl⟩
  | d + 1, i, hi => by
    obtain ⟨k, hk⟩ := first_inner m l s hl hp ho i (by omega) (first_loop m l s hl hp ho d (i + 1) (by omega)) l.length 0 (by omega)
    refine ⟨k + 1, ?_⟩
    simp only [annuletlaw03_RingFirst.l0]
    rw [if_pos (by omega)]
    exact hk

theorem RingFirst : annuletlaw03_RingFirst.Pure := by
  intro a0 l1 h0 h1
  have hm : U a0 := wf_u64 h0
  have hu : ∀ x ∈ l1, U x := fun x hx => wf_u64 (h1.2 x hx)
  by_cases hl : (l1.length : Int) > 40
  · refine ⟨10, ?_⟩
    unfold annuletlaw03_RingFirst.f
    rw [if_pos hl, awake_is]
    rfl
  · obtain ⟨k1, r1, e1, o1⟩ := owner_is a0 l1 (by omega)
    obtain ⟨s, e3, s1, s2⟩ := sort_is a0 l1 (by omega)
    have hsl := s2.length_eq
    obtain ⟨k2, e2⟩ := first_loop a0 l1 s (by omega) s2 s1 l1.length 0 (by omega)
    have ej : annuletlaw03_RingFirst.j0 (k2 + 1) a0 l1 s false = some true := by
      simp only [annuletlaw03_RingFirst.j0]
      rw [if_neg (by simp)]
      exact e2
    have ej' : ∀ k, k2 + 1 ≤ k → annuletlaw03_RingFirst.j0 k a0 l1 s false = some true := up (g := fun k => annuletlaw03_RingFirst.j0 k a0 l1 s false) (fun k => (annuletlaw03_RingFirst.mono_l k).1 _ _ _ _) ej
    refine ⟨k1 + k2 + 10, ?_⟩
    unfold annuletlaw03_RingFirst.f
    rw [if_neg hl, e3]
    simp only [Option.bind_some]
    rw [up (g := fun k => ring_Owner.f k l1 a0) (fun k => ring_Owner.mono _ _ k) e1 _ (by omega)]
    simp only [Option.bind_some]
    rw [if_pos (by omega)]
    rcases o1 with ⟨rfl, rfl⟩ | ⟨n, rfl, n1, n2, n3⟩
    · rw [if_neg (by simp), if_neg (by simp), if_neg (by omega)]
      exact ej' _ (by omega)
    · rw [if_neg (by have e1 : decide ((n : Int) < 0) = false := decide_eq_false (by omega)
                     have e2 : ((l1.length : Int) == 0) = false := beq_eq_false_iff_ne.2 (by omega)
                     rw [e1, e2]; simp), if_neg (by omega), if_pos (by omega), if_pos (by omega), if_pos (by omega), if_pos (by omega)]
      have hz : rd s 0 = rd l1 (n : Int) := by
        have h0s : 0 < s.length := by omega
        have hr0 : rd s 0 = s[0] := rd_at (j := 0) h0s
        have hrn : rd l1 (n : Int) = l1[n] := rd_at n1
        rw [hr0, hrn]
        refine dist_inj (m := a0) (hu _ (s2.mem_iff.1 (List.getElem_mem _))) (hu _ (List.getElem_mem _)) ?_
        obtain ⟨t, ht, het⟩ := List.getElem_of_mem (s2.mem_iff.1 (List.getElem_mem h0s))
        obtain ⟨q, hq, heq⟩ := List.getElem_of_mem (s2.mem_iff.2 (List.getElem_mem n1))
        have h2 := n2 t ht
        rw [hrn, rd_at ht, het] at h2
        have h3 : dist a0 s[0] ≤ dist a0 s[q] := by
          rcases Nat.eq_zero_or_pos q with h | h
          · subst h; exact Int.le_refl _
          · exact (List.pairwise_iff_getElem.1 s1) 0 q h0s hq h
        rw [heq] at h3
        omega
      rw [hz, bne_self_eq_false]
      exact ej' _ (by omega)

end Go.Proofs.Ytpkodbeleefnjaa.Pure
