/- It is proved that, for every input, Fresh and Has of any record and any number are as the reference's, and that Mark's record is the reference's one, but for bits that stand for numbers below 0. No condition. -/
import Derived.Test.YtnkgniokppafhaaQSaySeenFresh
import Derived.Test.YtnkgniokppafhaaSeenQ
namespace Go.Proofs.Ytnkgniokppafhaa.Pure
open Go.RowKit Go.Proofs.Ytnkgniokppafhaa.Q Go.Proofs.YtnkgniokppafhaaW.PrintWords Go.Proofs.YtnkgniokppafhaaW.PrintLast Go.Proofs.Ytnkgniokppafhaa.SeenQ

theorem awake_is : annuletlaw20_awake.f = some true := by decide +kernel

theorem wf_u32 {n : Int} (h : (Lit.int .u32 n).wf = true) : ∃ m : Nat, n = m ∧ m < 4294967296 := by
  simp only [Lit.wf, Bool.and_eq_true, decide_eq_true_eq] at h
  have h1 : IntKind.u32.min = 0 := rfl
  have h2 : IntKind.u32.max = 4294967295 := rfl
  exact ⟨n.toNat, by omega, by omega⟩

theorem wf_u64 {n : Int} (h : (Lit.int .u64 n).wf = true) : ∃ m : Nat, n = m ∧ m < 2 ^ 64 := by
  simp only [Lit.wf, Bool.and_eq_true, decide_eq_true_eq] at h
  have h1 : IntKind.u64.min = 0 := rfl
  have h2 : IntKind.u64.max = 18446744073709551615 := rfl
  exact ⟨n.toNat, by omega, by omega⟩

theorem SeenFresh : annuletlaw20_SeenFresh.Pure := by
  intro s e i hs he hi
  obtain ⟨any, ep, top, b⟩ := s
  obtain ⟨_, h1, h2, h3⟩ := hs
  obtain ⟨ep, rfl, hep⟩ := wf_u32 h1
  obtain ⟨top, rfl, htop⟩ := wf_u32 h2
  obtain ⟨b, rfl, hb⟩ := wf_u64 h3
  obtain ⟨e, rfl, he'⟩ := wf_u32 he
  obtain ⟨i, rfl, hi'⟩ := wf_u32 hi
  obtain ⟨B, hB, hB'⟩ := ref_mark 400 (by omega) any ep top b e i htop hi' hb
  refine ⟨401, ?_⟩
  have hB2 : annuletref20_Mark.f 400 any ep top b e i = some ((mk any ep top b e i).1, ((mk any ep top b e i).2.1 : Int), ((mk any ep top b e i).2.2.1 : Int), (B : Int)) := hB
  have hS : seen_Mark.f any ep top b e i = some ((mk any ep top b e i).1, ((mk any ep top b e i).2.1 : Int), ((mk any ep top b e i).2.2.1 : Int), ((mk any ep top b e i).2.2.2 : Int)) := seen_mark any ep top b e i htop hi' hb
  generalize (mk any ep top b e i).1 = m1 at hB2 hS
  generalize (mk any ep top b e i).2.1 = m2 at hB2 hS
  generalize (mk any ep top b e i).2.2.1 = m3 at hB2 hS
  generalize (mk any ep top b e i).2.2.2 = m4 at hB2 hS hB'
  unfold annuletlaw20_SeenFresh.f seen_Has.f
  simp only [seen_fresh any ep top b e i htop hb, ref_fresh 401 (by omega) any ep top b e i htop hb, Option.bind_some, if_true]
  have hne : ((fr any ep top b e i == 12) != (fr any ep top b e i == 12)) = false := by simp
  rw [hne]
  simp only [annuletlaw20_SeenFresh.j0, Bool.false_eq_true, if_false, hS, hB2, Option.bind_some, beq_self_eq_true, Bool.true_and, if_true, awake_is]
  by_cases h : ((m4 : Int) == (B : Int)) = true
  · rw [if_pos h]
  · rw [if_neg h]
    have hn : ¬ (any = false ∨ Tidy top b) := fun ho => h (by rw [hB' ho]; simp)
    have ha : any = true := by
      cases any with
      | true => rfl
      | false => exact absurd (.inl rfl) hn
    have ht : (top : Int) < 64 := by
      have : ¬ 64 ≤ top := fun h64 => hn (.inr (.inl h64))
      omega
    rw [if_pos ha, if_pos ht]

end Go.Proofs.Ytnkgniokppafhaa.Pure
