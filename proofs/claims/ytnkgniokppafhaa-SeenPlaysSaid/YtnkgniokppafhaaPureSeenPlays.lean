/- It is proved that, for every input, an empty memory that marks any numbers, one behind the other, answers each Fresh and is behind each Mark as the reference's is. No condition. -/
import Derived.Test.YtnkgniokppafhaaPSaySeenPlays
import Derived.Test.YtnkgniokppafhaaSeen
namespace Go.Proofs.Ytnkgniokppafhaa.Pure
open Go.RowKit Go.Proofs.Ytnkgniokppafhaa.P Go.Proofs.YtnkgniokppafhaaW.PrintWords Go.Proofs.YtnkgniokppafhaaW.PrintLast Go.Proofs.Ytnkgniokppafhaa.Seen

theorem awake_is : annuletlaw20_awake.f = some true := by decide +kernel

theorem wrap_i {i : Int} {n : Nat} (h0 : 0 ≤ i) (h : i < (n : Int)) (hn : n ≤ 1000) : wrap64 (i + 1) = i + 1 := by
  unfold wrap64
  omega

theorem wf_u32 {n : Int} (h : (Lit.int .u32 n).wf = true) : ∃ m : Nat, n = m ∧ m < 4294967296 := by
  simp only [Lit.wf, Bool.and_eq_true, decide_eq_true_eq] at h
  have h1 : IntKind.u32.min = 0 := rfl
  have h2 : IntKind.u32.max = 4294967295 := rfl
  exact ⟨n.toNat, by omega, by omega⟩

theorem number (l : List S33) (hl : ∀ y ∈ l, wf33 y) (i : Nat) (hi : i < l.length) : ∃ e m : Nat, (rd_T33 l i).f0 = e ∧ (rd_T33 l i).f1 = m ∧ e < 4294967296 ∧ m < 4294967296 := by
  have hm : rd_T33 l i ∈ l := by
    unfold rd_T33
    rw [Int.toNat_natCast, List.getD_eq_getElem?_getD, List.getElem?_eq_getElem hi]
    exact List.getElem_mem hi
  obtain ⟨h1, h2⟩ := hl _ hm
  obtain ⟨e, he, he'⟩ := wf_u32 h1
  obtain ⟨m, hm, hm'⟩ := wf_u32 h2
  exact ⟨e, m, he, hm, he', hm'⟩

theorem plays (l : List S33) (hl : ∀ y ∈ l, wf33 y) (hn : l.length ≤ 100) (d : Nat) : ∀ (k i : Nat) (any : Bool) (ep top b : Nat), i + d = l.length → d + 200 < k → ep < 4294967296 → top < 4294967296 → b < 2 ^ 64 → (any = false ∨ Tidy top b) →
    annuletlaw20_SeenPlays.l0 k l i any ep top b any ep top b = some true := by
  induction d with
  | zero =>
    intro k i any ep top b hi hk he ht hb htd
    obtain ⟨k, rfl⟩ : ∃ m, k = m + 1 := ⟨k - 1, by omega⟩
    simp only [annuletlaw20_SeenPlays.l0]
    rw [if_neg (by omega), awake_is]
    rfl
  | succ d ih =>
    intro k i any ep top b hi hk he ht hb htd
    obtain ⟨k, rfl⟩ : ∃ m, k = m + 1 := ⟨k - 1, by omega⟩
    obtain ⟨e, m, h1, h2, h3, h4⟩ := number l hl i (by omega)
    have hbd := mk_bounds he ht hb h3 h4 (any := any)
    have htd' := mk_tidy (e := e) (i := m) (ep := ep) htd
    obtain ⟨B, hB, hB'⟩ := ref_mark k (by omega) any ep top b e m ht h4 hb
    have hB2 := hB' htd
    subst hB2
    simp only [annuletlaw20_SeenPlays.l0]
    rw [if_pos (by omega), if_pos (by omega), h1, h2, seen_fresh any ep top b e m ht hb, ref_fresh k (by omega) any ep top b e m ht hb, seen_mark any ep top b e m ht h4 hb, hB]
    simp only [Option.bind_some, if_true, Seen.up, beq_self_eq_true, Bool.not_true, Bool.or_self, Bool.false_eq_true, if_false]
    rw [wrap_i (n := l.length) (by omega) (by omega) (by omega)]
    exact ih k (i + 1) _ _ _ _ (by omega) (by omega) hbd.1 hbd.2.1 hbd.2.2 htd'

theorem SeenPlays : annuletlaw20_SeenPlays.Pure := by
  intro l hl
  refine ⟨400, ?_⟩
  unfold annuletlaw20_SeenPlays.f
  by_cases h : (l.length : Int) > 100
  · rw [if_pos h, awake_is]; rfl
  · rw [if_neg h]
    exact plays l hl.2 (by omega) l.length 400 0 false 0 0 0 (by omega) (by omega) (by omega) (by omega) (by decide) (.inl rfl)

end Go.Proofs.Ytnkgniokppafhaa.Pure
