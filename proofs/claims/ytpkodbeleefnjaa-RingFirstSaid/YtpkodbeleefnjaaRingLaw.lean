/- It is proved, in plain Lean, what the printed functions Owner and Sort of the ring and of the reference compute: the first of the nearest; the places in order. For lists of at most 40 places. -/
import Derived.Test.YtpkodbeleefnjaaPx3
namespace Go.Proofs.Ytpkodbeleefnjaa.RingLaw
open Go.RowKit Go.Proofs.Ytpkodbeleefnjaa.P Go.Proofs.YtpkodbeleefnjaaW.PrintWords Go.Proofs.YtpkodbeleefnjaaW.PrintLast Go.Proofs.YtpkodbeleefnjaaW.PrintSort
set_option linter.unusedVariables false
set_option linter.unusedSimpArgs false

theorem wrap_u64 (n : Int) : IntKind.u64.wrap n = n % 18446744073709551616 := Eq.trans (b := n % 18446744073709551616) rfl rfl
theorem wf_u64 {n : Int} (h : (Lit.int .u64 n).wf = true) : 0 ≤ n ∧ n < 18446744073709551616 := by
  simp only [Lit.wf, Bool.and_eq_true, decide_eq_true_eq] at h
  have h1 : IntKind.u64.min = 0 := rfl
  have h2 : IntKind.u64.max = 18446744073709551615 := rfl
  omega
def U (x : Int) : Prop := 0 ≤ x ∧ x < 18446744073709551616
def dist (m x : Int) : Int := (x - m) % 18446744073709551616
theorem ring_dist (a b : Int) : ring_Dist.f a b = some (dist a b) := by
  unfold ring_Dist.f dist
  rw [wrap_u64]
theorem ref_dist {a b : Int} (ha : U a) (hb : U b) : annuletref03_Dist.f a b = some (dist a b) := by
  unfold annuletref03_Dist.f dist
  unfold U at ha hb
  simp only [wrap_u64]
  split
  · rfl
  · congr 1
    omega
theorem dist_inj {m a b : Int} (ha : U a) (hb : U b) (h : dist m a = dist m b) : a = b := by
  unfold dist at h
  unfold U at ha hb
  omega
theorem up {α : Type} {g : Nat → Option α} (h : ∀ k, LeO (g k) (g (k + 1))) {k : Nat} {r : α} (hk : g k = some r) : ∀ k', k ≤ k' → g k' = some r := by
  intro k' hle
  obtain ⟨d, rfl⟩ : ∃ d, k' = k + d := ⟨k' - k, by omega⟩
  induction d with
  | zero => exact hk
  | succ d ih => exact h (k + d) r (ih (by omega))
theorem step40 {i : Nat} (h : i < 100) : wrap64 ((i : Int) + 1) = ((i + 1 : Nat) : Int) := by
  unfold wrap64
  omega
theorem awake_is : annuletlaw03_awake.f 10 = some true := by decide +kernel
theorem rd_at {l : List Int} {j : Nat} (h : j < l.length) : rd l (j : Int) = l[j] := by
  unfold rd
  rw [Int.toNat_natCast, List.getD_eq_getElem?_getD, List.getElem?_eq_getElem h]
  rfl
theorem rdU {l : List Int} (hu : ∀ x ∈ l, U x) {j : Nat} (h : j < l.length) : U (rd l (j : Int)) := by
  rw [rd_at h]
  exact hu _ (List.getElem_mem h)

/-- The first of those that lie nearest. -/
def First (m : Int) (l : List Int) (n : Nat) : Prop := n < l.length ∧ (∀ j : Nat, j < l.length → dist m (rd l n) ≤ dist m (rd l j)) ∧ ∀ j : Nat, j < n → dist m (rd l n) < dist m (rd l j)
theorem First.unique {m : Int} {l : List Int} {a b : Nat} (ha : First m l a) (hb : First m l b) : a = b := by
  obtain ⟨a1, a2, a3⟩ := ha
  obtain ⟨b1, b2, b3⟩ := hb
  rcases Nat.lt_trichotomy a b with h | h | h
  · have h1 := b3 a h; have h2 := a2 b b1; omega
  · exact h
  · have h1 := a3 b h; have h2 := b2 a a1; omega
def OwnerIs (m : Int) (l : List Int) (r : Int) : Prop := (l = [] ∧ r = -1) ∨ ∃ n : Nat, r = n ∧ First m l n

theorem owner_loop (m : Int) (l : List Int) (hl : l.length ≤ 40) : ∀ (d i : Nat) (b : Int), i + d = l.length → ((i = 0 ∧ b = -1) ∨ ∃ r : Nat, b = r ∧ r < i ∧ (∀ j : Nat, j < i → dist m (rd l r) ≤ dist m (rd l j)) ∧ ∀ j : Nat, j < r → dist m (rd l r) < dist m (rd l j)) →
    ∃ k r, ring_Owner.l0 k l m b l (l.length : Int) (i : Int) = some r ∧ OwnerIs m l r
  | 0, i, b, hi, hb => by
    refine ⟨1, b, ?_, ?_⟩
    · simp only [ring_Owner.l0]
      rw [if_neg (by omega)]
    · rcases hb with ⟨rfl, rfl⟩ | ⟨r, rfl, h1, h2, h3⟩
      · exact .inl ⟨List.eq_nil_of_length_eq_zero (by omega), rfl⟩
      · exact .inr ⟨r, rfl, by omega, fun j hj => h2 j (by omega), h3⟩
  | d + 1, i, b, hi, hb => by
    have hil : i < l.length := by omega
    rcases hb with ⟨rfl, rfl⟩ | ⟨r, rfl, h1, h2, h3⟩
    · have q1 : ∀ j : Nat, j < 1 → dist m (rd l ((0 : Nat) : Int)) ≤ dist m (rd l j) := fun j hj => by
        obtain rfl : j = 0 := by omega
        exact Int.le_refl _
      obtain ⟨k, r, hk, hr⟩ := owner_loop m l hl d 1 (0 : Nat) (by omega) (.inr ⟨0, rfl, by omega, q1, fun j hj => absurd hj (Nat.not_lt_zero _)⟩)
      refine ⟨k + 1, r, ?_, hr⟩
      simp only [ring_Owner.l0]
      rw [if_pos (by omega), if_pos (by omega), if_pos (by omega), if_pos (by omega), step40 (by omega)]
      exact hk
    · by_cases hd : dist m (rd l (i : Int)) < dist m (rd l (r : Int))
      · have q1 : ∀ j : Nat, j < i + 1 → dist m (rd l (i : Int)) ≤ dist m (rd l j) := fun j hj => by
          rcases Nat.lt_or_ge j i with h | h
          · have := h2 j h
            omega
          · obtain rfl : j = i := by omega
            exact Int.le_refl _
        have q2 : ∀ j : Nat, j < i → dist m (rd l (i : Int)) < dist m (rd l j) := fun j hj => by
          have := h2 j hj
          omega
        obtain ⟨k, r', hk, hr⟩ := owner_loop m l hl d (i + 1) (i : Nat) (by omega) (.inr ⟨i, rfl, by omega, q1, q2⟩)
        refine ⟨k + 1, r', ?_, hr⟩
        simp only [ring_Owner.l0]
        rw [if_pos (by omega), if_pos (by omega), if_pos (by omega), if_neg (by omega)]
        simp only [ring_dist, Option.bind_some]
        rw [if_pos (by omega), if_pos (by omega), if_pos hd, step40 (by omega)]
        exact hk
      · have q1 : ∀ j : Nat, j < i + 1 → dist m (rd l (r : Int)) ≤ dist m (rd l j) := fun j hj => by
          rcases Nat.lt_or_ge j i with h | h
          · exact h2 j h
          · obtain rfl : j = i := by omega
            omega
        obtain ⟨k, r', hk, hr⟩ := owner_loop m l hl d (i + 1) (r : Nat) (by omega) (.inr ⟨r, rfl, by omega, q1, h3⟩)
        refine ⟨k + 1, r', ?_, hr⟩
        simp only [ring_Owner.l0]
        rw [if_pos (by omega), if_pos (by omega), if_pos (by omega), if_neg (by omega)]
        simp only [ring_dist, Option.bind_some]
        rw [if_pos (by omega), if_pos (by omega), if_neg hd, step40 (by omega)]
        exact hk
theorem owner_is (m : Int) (l : List Int) (hl : l.length ≤ 40) : ∃ k r, ring_Owner.f k l m = some r ∧ OwnerIs m l r := by
  unfold ring_Owner.f
  exact owner_loop m l hl l.length 0 (-1) (by omega) (.inl ⟨rfl, rfl⟩)

theorem ref_owner_inner (m : Int) (l : List Int) (hm : U m) (hu : ∀ x ∈ l, U x) (hl : l.length ≤ 40) (i : Nat) (hi : i < l.length) (hb : ∀ a : Nat, a < i → ∃ t : Nat, t < l.length ∧ dist m (rd l t) < dist m (rd l a))
    (hn : (∃ t : Nat, t < l.length ∧ dist m (rd l t) < dist m (rd l i)) → ∃ k r, annuletref03_Owner.l0 k l m ((i + 1 : Nat) : Int) = some r ∧ OwnerIs m l r) : ∀ (d j : Nat) (f : Bool), j + d = l.length → (f = true ↔ ∀ t : Nat, t < j → ¬ dist m (rd l t) < dist m (rd l i)) →
    ∃ k r, annuletref03_Owner.l1 k l m (i : Int) f (j : Int) = some r ∧ OwnerIs m l r
  | 0, j, f, hj, hf => by
    cases f with
    | true =>
      have hf' := hf.1 rfl
      refine ⟨1, i, ?_, .inr ⟨i, rfl, hi, fun t ht => by have := hf' t (by omega); omega, fun t ht => by
        obtain ⟨s, hs, hd⟩ := hb t ht
        have := hf' s (by omega)
        omega⟩⟩
      simp only [annuletref03_Owner.l1]
      rw [if_neg (by omega), if_pos trivial]
    | false =>
      have : ∃ t : Nat, t < l.length ∧ dist m (rd l t) < dist m (rd l i) := by
        apply Classical.byContradiction
        intro hc
        have := hf.2 (fun t ht hd => hc ⟨t, by omega, hd⟩)
        cases this
      obtain ⟨k, r, hk, hr⟩ := hn this
      refine ⟨k + 1, r, ?_, hr⟩
      simp only [annuletref03_Owner.l1]
      rw [if_neg (by omega), if_neg (by simp), step40 (by omega)]
      exact hk
  | d + 1, j, f, hj, hf => by
    have hjl : j < l.length := by omega
    by_cases hd : dist m (rd l (j : Int)) < dist m (rd l (i : Int))
    · obtain ⟨k, r, hk, hr⟩ := ref_owner_inner m l hm hu hl i hi hb hn d (j + 1) false (by omega) ⟨fun h => (by cases h), fun h => absurd hd (h j (by omega))⟩
      refine ⟨k + 1, r, ?_, hr⟩
      simp only [annuletref03_Owner.l1]
      rw [if_pos (by omega), if_pos (by omega), ref_dist hm (rdU hu hjl)]
      simp only [Option.bind_some]
      rw [if_pos (by omega), if_pos (by omega), ref_dist hm (rdU hu hi)]
      simp only [Option.bind_some]
      rw [if_pos hd, step40 (by omega)]
      exact hk
    · have q1 : f = true → ∀ t : Nat, t < j + 1 → ¬ dist m (rd l t) < dist m (rd l i) := fun h t ht => by
        rcases Nat.lt_or_ge t j with h1 | h1
        · exact hf.1 h t h1
        · obtain rfl : t = j := by omega
          exact hd
      obtain ⟨k, r, hk, hr⟩ := ref_owner_inner m l hm hu hl i hi hb hn d (j + 1) f (by omega) ⟨q1, fun h => hf.2 (fun t ht => h t (by omega))⟩
      refine ⟨k + 1, r, ?_, hr⟩
      simp only [annuletref03_Owner.l1]
      rw [if_pos (by omega), if_pos (by omega), ref_dist hm (rdU hu hjl)]
      simp only [Option.bind_some]
      rw [if_pos (by omega), if_pos (by omega), ref_dist hm (rdU hu hi)]
      simp only [Option.bind_some]
      rw [if_neg hd, step40 (by omega)]
      exact hk
theorem ref_owner_loop (m : Int) (l : List Int) (hm : U m) (hu : ∀ x ∈ l, U x) (hl : l.length ≤ 40) (hF : l = [] ∨ ∃ n, First m l n) : ∀ (d i : Nat), i + d = l.length → (∀ a : Nat, a < i → ∃ t : Nat, t < l.length ∧ dist m (rd l t) < dist m (rd l a)) →
    ∃ k r, annuletref03_Owner.l0 k l m (i : Int) = some r ∧ OwnerIs m l r
  | 0, i, hi, hb => by
    rcases hF with rfl | ⟨n, h1, h2, _⟩
    · refine ⟨1, -1, ?_, .inl ⟨rfl, rfl⟩⟩
      simp only [annuletref03_Owner.l0]
      rw [if_neg (by omega)]
    · obtain ⟨t, ht, hd⟩ := hb n (by omega)
      have := h2 t ht
      omega
  | d + 1, i, hi, hb => by
    obtain ⟨k, r, hk, hr⟩ := ref_owner_inner m l hm hu hl i (by omega) hb (fun h => ref_owner_loop m l hm hu hl hF d (i + 1) (by omega) (fun a ha => by
      rcases Nat.lt_or_ge a i with h1 | h1
      · exact hb a h1
      · have : a = i := by omega
        subst this; exact h)) l.length 0 true (by omega) ⟨fun _ t ht => absurd ht (Nat.not_lt_zero _), fun _ => rfl⟩
    refine ⟨k + 1, r, ?_, hr⟩
    simp only [annuletref03_Owner.l0]
    rw [if_pos (by omega)]
    exact hk
theorem owner_same {m : Int} {l : List Int} {a b : Int} (ha : OwnerIs m l a) (hb : OwnerIs m l b) : a = b := by
  rcases ha with ⟨h1, rfl⟩ | ⟨n, rfl, h1⟩
  · rcases hb with ⟨h2, rfl⟩ | ⟨n', rfl, h2⟩
    · rfl
    · have := h2.1; rw [h1] at this; simp at this
  · rcases hb with ⟨h2, rfl⟩ | ⟨n', rfl, h2⟩
    · have := h1.1; rw [h2] at this; simp at this
    · rw [h1.unique h2]
theorem ref_owner_is (m : Int) (l : List Int) (hm : U m) (hu : ∀ x ∈ l, U x) (hl : l.length ≤ 40) : ∃ k r, annuletref03_Owner.f k l m = some r ∧ OwnerIs m l r := by
  unfold annuletref03_Owner.f
  obtain ⟨_, r, _, hr⟩ := owner_is m l hl
  exact ref_owner_loop m l hm hu hl (by rcases hr with ⟨h, _⟩ | ⟨n, _, h⟩; exact .inl h; exact .inr ⟨n, h⟩) l.length 0 (by omega) (fun a ha => absurd ha (Nat.not_lt_zero _))

/-! ### in order -/
def InOrder (m : Int) (o : List Int) : Prop := o.Pairwise fun a b => dist m a ≤ dist m b
theorem sort_is (m : Int) (l : List Int) (hl : l.length ≤ 40) : ∃ s, ring_Sort.f m l = some s ∧ InOrder m s ∧ s.Perm l := by
  refine ⟨sorted (rs_cf m) l, by unfold ring_Sort.f; rw [if_pos (by omega)], ?_, ?_⟩
  all_goals have hs := sorted_spec (rs_cf m) (rs_swo m) l
  all_goals have hln := sorted_length (rs_cf m) (rs_swo m) l
  all_goals obtain ⟨⟨hsz, _, hp⟩, hso⟩ := hs
  · unfold InOrder
    rw [List.pairwise_iff_getElem]
    intro i j hi hj hij
    have h1 := hso i j (Nat.zero_le _) hij (by rw [List.size_toArray]; omega)
    rw [getElem!_pos _ _ (by simpa using hj), getElem!_pos _ _ (by simpa using hi), rs_lt] at h1
    simp only [List.getElem_toArray, decide_eq_false_iff_not, wrap_u64] at h1
    unfold dist
    omega
  · have e1 : ((sorted (rs_cf m) l).toArray.extract 0 l.toArray.size).toList = sorted (rs_cf m) l := by
      rw [← hsz, Array.extract_size]
    have e2 : (l.toArray.extract 0 l.toArray.size).toList = l := by rw [Array.extract_size]
    rw [e1, e2] at hp
    exact hp
theorem order_unique {m : Int} {a b : List Int} (ha : InOrder m a) (hb : InOrder m b) (hu : ∀ x ∈ a, U x) (hp : a.Perm b) : a = b := by
  refine List.Perm.eq_of_pairwise (le := fun x y => dist m x ≤ dist m y) ?_ ha hb hp
  intro x y hx hy h1 h2
  exact dist_inj (m := m) (hu x hx) (hu y (hp.mem_iff.2 hy)) (by omega)
/-- x is put in behind those that lie no farther. -/
theorem put_in {m x : Int} {o : List Int} {j : Nat} (hj : j ≤ o.length) (ho : InOrder m o) (h1 : ∀ t : Nat, t < j → dist m (rd o t) ≤ dist m x) (h2 : j < o.length → dist m x < dist m (rd o j)) :
    InOrder m (o.take j ++ [x] ++ o.drop j) ∧ (o.take j ++ [x] ++ o.drop j).Perm (x :: o) := by
  constructor
  · unfold InOrder at ho ⊢
    rw [List.append_assoc, List.pairwise_append]
    have hsplit := ho
    rw [← List.take_append_drop j o, List.pairwise_append] at hsplit
    refine ⟨hsplit.1, ?_, ?_⟩
    · rw [List.singleton_append, List.pairwise_cons]
      refine ⟨fun y hy => ?_, hsplit.2.1⟩
      obtain ⟨t, ht, rfl⟩ := List.getElem_of_mem hy
      rw [List.length_drop] at ht
      have hjl : j < o.length := by omega
      have h3 := h2 hjl
      rw [rd_at hjl] at h3
      rw [List.getElem_drop]
      rcases Nat.eq_zero_or_pos t with h0 | h0
      · subst h0; simp only [Nat.add_zero]; omega
      · have := (List.pairwise_iff_getElem.1 ho) j (j + t) hjl (by omega) (by omega)
        omega
    · intro a ha b hb
      obtain ⟨t, ht, rfl⟩ := List.getElem_of_mem ha
      rw [List.length_take] at ht
      have h3 := h1 t (by omega)
      rw [rd_at (by omega)] at h3
      rw [List.getElem_take]
      rw [List.singleton_append, List.mem_cons] at hb
      rcases hb with rfl | hb
      · exact h3
      · exact hsplit.2.2 _ (by have := List.getElem_mem (l := o.take j) (n := t) (by rw [List.length_take]; omega); rwa [List.getElem_take] at this) _ hb
  · have : (o.take j ++ [x] ++ o.drop j).Perm (x :: (o.take j ++ o.drop j)) := by
      rw [List.append_assoc, List.singleton_append]
      exact List.perm_middle
    rwa [List.take_append_drop] at this
theorem ref_sort_inner (m : Int) (l : List Int) (hm : U m) (hu : ∀ x ∈ l, U x) (hl : l.length ≤ 40) (i : Nat) (hi : i < l.length) (o : List Int) (ho : InOrder m o) (huo : ∀ x ∈ o, U x) (hol : o.length ≤ 40)
    (hn : ∀ o', InOrder m o' → o'.Perm (rd l i :: o) → ∃ k r, annuletref03_Sort.l0 k m l o' ((i + 1 : Nat) : Int) = some r ∧ InOrder m r ∧ r.Perm l) : ∀ (d j : Nat), j + d = o.length → (∀ t : Nat, t < j → dist m (rd o t) ≤ dist m (rd l i)) →
    ∃ k r, annuletref03_Sort.l1 k m l o (i : Int) (j : Int) = some r ∧ InOrder m r ∧ r.Perm l
  | 0, j, hj, hb => by
    obtain ⟨hp1, hp2⟩ := put_in (by omega) ho hb (fun h => by omega)
    obtain ⟨k, r, hk, hr⟩ := hn _ hp1 hp2
    refine ⟨k + 1, r, ?_, hr⟩
    simp only [annuletref03_Sort.l1, Option.bind_some, List.nil_append, Int.toNat_natCast, List.length_nil, Nat.zero_add, List.length_append, List.length_singleton, List.length_take, List.length_drop]
    rw [if_neg (by omega), if_pos (by omega), if_pos (by omega), if_pos (by omega), if_pos (by omega), if_pos (by omega), if_pos (by omega), if_pos (by omega), step40 (by omega)]
    exact hk
  | d + 1, j, hj, hb => by
    have hjl : j < o.length := by omega
    by_cases hd : dist m (rd o (j : Int)) ≤ dist m (rd l (i : Int))
    · obtain ⟨k, r, hk, hr⟩ := ref_sort_inner m l hm hu hl i hi o ho huo hol hn d (j + 1) (by omega) (fun t ht => by
        rcases Nat.lt_or_ge t j with h | h
        · exact hb t h
        · have : t = j := by omega
          subst this; exact hd)
      refine ⟨k + 1, r, ?_, hr⟩
      simp only [annuletref03_Sort.l1]
      rw [if_pos (by omega), if_pos (by omega), ref_dist hm (rdU huo hjl)]
      simp only [Option.bind_some]
      rw [if_pos (by omega), if_pos (by omega), ref_dist hm (rdU hu hi)]
      simp only [Option.bind_some]
      rw [if_pos hd, step40 (by omega)]
      exact hk
    · obtain ⟨hp1, hp2⟩ := put_in (x := rd l i) (by omega) ho hb (fun h => by omega)
      obtain ⟨k, r, hk, hr⟩ := hn _ hp1 hp2
      refine ⟨k + 1, r, ?_, hr⟩
      simp only [annuletref03_Sort.l1]
      rw [if_pos (by omega), if_pos (by omega), ref_dist hm (rdU huo hjl)]
      simp only [Option.bind_some]
      rw [if_pos (by omega), if_pos (by omega), ref_dist hm (rdU hu hi)]
      simp only [Option.bind_some, List.nil_append, Int.toNat_natCast, List.length_nil, Nat.zero_add, List.length_append, List.length_singleton, List.length_take, List.length_drop]
      rw [if_neg hd, if_pos (by omega), if_pos (by omega), if_pos (by omega), if_pos (by omega), step40 (by omega)]
      exact hk
theorem ref_sort_loop (m : Int) (l : List Int) (hm : U m) (hu : ∀ x ∈ l, U x) (hl : l.length ≤ 40) : ∀ (d i : Nat) (o : List Int), i + d = l.length → InOrder m o → o.Perm (l.take i) →
    ∃ k r, annuletref03_Sort.l0 k m l o (i : Int) = some r ∧ InOrder m r ∧ r.Perm l
  | 0, i, o, hi, ho, hp => by
    refine ⟨1, o, ?_, ho, by rwa [List.take_of_length_le (by omega)] at hp⟩
    simp only [annuletref03_Sort.l0]
    rw [if_neg (by omega)]
  | d + 1, i, o, hi, ho, hp => by
    have hil : i < l.length := by omega
    have hol := hp.length_eq
    rw [List.length_take] at hol
    obtain ⟨k, r, hk, hr⟩ := ref_sort_inner m l hm hu hl i hil o ho (fun x hx => hu x (List.mem_of_mem_take (hp.mem_iff.1 hx))) (by omega)
      (fun o' h1 h2 => ref_sort_loop m l hm hu hl d (i + 1) o' (by omega) h1 (h2.trans (by
        rw [rd_at hil, List.take_succ_eq_append_getElem hil]
        exact ((List.Perm.cons _ hp).trans (List.perm_append_singleton _ _).symm)))) o.length 0 (by omega) (fun t ht => absurd ht (Nat.not_lt_zero _))
    refine ⟨k + 1, r, ?_, hr⟩
    simp only [annuletref03_Sort.l0]
    rw [if_pos (by omega)]
    exact hk
theorem ref_sort_is (m : Int) (l : List Int) (hm : U m) (hu : ∀ x ∈ l, U x) (hl : l.length ≤ 40) : ∃ k r, annuletref03_Sort.f k m l = some r ∧ InOrder m r ∧ r.Perm l := by
  unfold annuletref03_Sort.f
  exact ref_sort_loop m l hm hu hl l.length 0 [] (by omega) List.Pairwise.nil (by simp)
end Go.Proofs.Ytpkodbeleefnjaa.RingLaw
