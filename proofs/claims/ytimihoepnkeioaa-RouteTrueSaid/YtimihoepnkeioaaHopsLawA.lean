/- It is proved, in plain Lean: what the walk of fings.Hops shows is what the printed reference function Hops computes, for values that are in their types. -/
import Derived.Test.YtimihoepnkeioaaPx5
namespace Go.Proofs.Ytimihoepnkeioaa.HopsLaw
open Go.RowKit Go.Proofs.Ytimihoepnkeioaa.P Go.Proofs.YtimihoepnkeioaaW.PrintWords Go.Proofs.YtimihoepnkeioaaW.PrintLast Go.Proofs.YtimihoepnkeioaaW.PrintIdx Go.Proofs.YtimihoepnkeioaaW.PrintSort
set_option linter.unusedVariables false
set_option linter.unusedSimpArgs false

theorem wrap_u64 (n : Int) : IntKind.u64.wrap n = n % 18446744073709551616 := Eq.trans (b := n % 18446744073709551616) rfl rfl
theorem wf_u64 {n : Int} (h : (Lit.int .u64 n).wf = true) : 0 ≤ n ∧ n < 18446744073709551616 := by
  simp only [Lit.wf, Bool.and_eq_true, decide_eq_true_eq] at h
  have h1 : IntKind.u64.min = 0 := rfl
  have h2 : IntKind.u64.max = 18446744073709551615 := rfl
  omega
def U (x : Int) : Prop := 0 ≤ x ∧ x < 18446744073709551616
def dist (m x : Int) : Int := (x - m) % 18446744073709551616
def btw (a x b : Int) : Bool := decide (x ≠ a ∧ (a = b ∨ dist a x < dist a b))

theorem ring_dist (a b : Int) : ring_Dist.f a b = some (dist a b) := by
  unfold ring_Dist.f dist
  rw [wrap_u64]
theorem ring_btw (a x b : Int) : ring_Between.f a x b = some (btw a x b) := by
  unfold ring_Between.f btw
  simp only [ring_dist, Option.bind_some]
  split
  · simp_all
  · split
    · simp_all
    · simp_all
/-! Fuel -/
theorem up {α : Type} {g : Nat → Option α} (h : ∀ k, LeO (g k) (g (k + 1))) {k : Nat} {r : α} (hk : g k = some r) : ∀ k', k ≤ k' → g k' = some r := by
  intro k' hle
  induction hle with
  | refl => exact hk
  | step _ ih => exact h _ r ih
theorem step64 {i n : Nat} (h : i < n) (hn : n < 4611686018427387904) : wrap64 ((i : Int) + 1) = ((i + 1 : Nat) : Int) := by
  unfold wrap64
  omega

/-! Lists -/
def ins {α : Type} (lt : α → α → Bool) (p : α) (l : List α) : List α := l.takeWhile (fun q => lt q p) ++ p :: l.dropWhile (fun q => lt q p)
theorem ins_perm {α : Type} (lt : α → α → Bool) (p : α) (l : List α) : (ins lt p l).Perm (p :: l) := by
  unfold ins
  refine List.perm_middle.trans ?_
  rw [List.takeWhile_append_dropWhile]
theorem ins_pairwise {α : Type} {lt : α → α → Bool} (ht : ∀ x y z, lt x y = true → lt y z = true → lt x z = true) (p : α) (l : List α) (hl : l.Pairwise fun a b => lt a b = true) (hp : ∀ q ∈ l, lt q p = true ∨ lt p q = true) : (ins lt p l).Pairwise fun a b => lt a b = true := by
  induction l with
  | nil => simp [ins]
  | cons q t ih =>
    rw [List.pairwise_cons] at hl
    unfold ins
    cases h : lt q p with
    | true =>
      rw [List.takeWhile_cons_of_pos (by simpa using h), List.dropWhile_cons_of_pos (by simpa using h), List.cons_append, List.pairwise_cons]
      refine ⟨fun a ha => ?_, ih hl.2 (fun x hx => hp x (List.mem_cons_of_mem _ hx))⟩
      have ha' : a ∈ ins lt p t := ha
      rcases List.mem_cons.1 ((ins_perm lt p t).mem_iff.1 ha') with rfl | h2
      · exact h
      · exact hl.1 a h2
    | false =>
      rw [List.takeWhile_cons_of_neg (by simp [h]), List.dropWhile_cons_of_neg (by simp [h]), List.nil_append, List.pairwise_cons]
      have hpq : lt p q = true := by
        rcases hp q List.mem_cons_self with h1 | h1
        · rw [h] at h1; cases h1
        · exact h1
      refine ⟨fun a ha => ?_, List.pairwise_cons.2 hl⟩
      rcases List.mem_cons.1 ha with rfl | h2
      · exact hpq
      · exact ht _ _ _ hpq (hl.1 a h2)
theorem fold_ins {α : Type} {lt : α → α → Bool} (ht : ∀ x y z, lt x y = true → lt y z = true → lt x z = true) (X : List α) : ∀ (o : List α), o.Pairwise (fun a b => lt a b = true) → (∀ x ∈ X, ∀ q ∈ o, lt q x = true ∨ lt x q = true) → X.Pairwise (fun a b => lt a b = true ∨ lt b a = true) →
    (X.foldl (fun o p => ins lt p o) o).Pairwise (fun a b => lt a b = true) ∧ (X.foldl (fun o p => ins lt p o) o).Perm (o ++ X) := by
  induction X with
  | nil => intro o ho _ _; exact ⟨ho, by simp⟩
  | cons x t ih =>
    intro o ho hx hX
    rw [List.pairwise_cons] at hX
    rw [List.foldl_cons]
    have h1 := ins_pairwise ht x o ho (fun q hq => hx x List.mem_cons_self q hq)
    have h2 := ih (ins lt x o) h1 (fun y hy q hq => by
      rcases List.mem_cons.1 ((ins_perm lt x o).mem_iff.1 hq) with rfl | h3
      · exact hX.1 y hy
      · exact hx y (List.mem_cons_of_mem _ hy) q h3) hX.2
    refine ⟨h2.1, h2.2.trans ?_⟩
    have h3 := (ins_perm lt x o).append_right t
    refine h3.trans ?_
    rw [List.cons_append]
    exact List.perm_middle.symm

def lt (m : Int) (x y : S25) : Bool := decide (dist m y.f0 < dist m x.f0 ∨ dist m y.f0 = dist m x.f0 ∧ x.f1 < y.f1)
theorem lt_is (m : Int) : Go.Proofs.ltOf (hops_cf m) = lt m := by
  funext x y
  rw [hops_lt]
  unfold lt dist
  simp only [wrap_u64]
theorem lt_trans (m : Int) (x y z : S25) (h1 : lt m x y = true) (h2 : lt m y z = true) : lt m x z = true := by
  unfold lt at *
  simp only [decide_eq_true_eq] at *
  omega
theorem lt_either (m : Int) (x y : S25) (h : x.f1 ≠ y.f1) : lt m x y = true ∨ lt m y x = true := by
  unfold lt
  simp only [decide_eq_true_eq]
  omega
theorem lt_antisymm (m : Int) (x y : S25) (h1 : lt m x y = true) (h2 : lt m y x = true) : False := by
  unfold lt at *
  simp only [decide_eq_true_eq] at *
  omega
/-- An insertion of each, one behind the other, is the sort. -/
theorem fold_sorted (m : Int) (X : List S25) (hX : X.Pairwise fun a b => a.f1 ≠ b.f1) : X.foldl (fun o p => ins (lt m) p o) [] = sorted (hops_cf m) X := by
  have hf := fold_ins (lt_trans m) X [] List.Pairwise.nil (fun _ _ q hq => by simp at hq) (hX.imp (fun h => lt_either m _ _ h))
  rw [List.nil_append] at hf
  have hs := sorted_spec (hops_cf m) (hops_swo m) X
  rw [lt_is] at hs
  obtain ⟨⟨hsz, _, hp⟩, hso⟩ := hs
  have hl := sorted_length (hops_cf m) (hops_swo m) X
  have hperm : (sorted (hops_cf m) X).Perm X := by
    have e1 : ((sorted (hops_cf m) X).toArray.extract 0 X.toArray.size).toList = sorted (hops_cf m) X := by
      rw [← hsz, Array.extract_size]
    have e2 : (X.toArray.extract 0 X.toArray.size).toList = X := by rw [Array.extract_size]
    rw [e1, e2] at hp
    exact hp
  have hne : (sorted (hops_cf m) X).Pairwise fun a b => a.f1 ≠ b.f1 := (hperm.pairwise_iff (fun h => Ne.symm h)).2 hX
  have hpw : (sorted (hops_cf m) X).Pairwise fun a b => lt m a b = true := by
    rw [List.pairwise_iff_getElem] at hne ⊢
    intro i j hi hj hij
    have h1 := hso i j (Nat.zero_le _) hij (by rw [List.size_toArray]; omega)
    rw [getElem!_pos _ _ (by simpa using hj), getElem!_pos _ _ (by simpa using hi)] at h1
    rcases lt_either m _ _ (hne i j hi hj hij) with h2 | h2
    · exact h2
    · simp only [List.getElem_toArray] at h1
      rw [h1] at h2
      cases h2
  refine List.Perm.eq_of_pairwise (le := fun a b => lt m a b = true) ?_ hf.1 hpw (hf.2.trans hperm.symm)
  intro a b _ _ h1 h2
  exact (lt_antisymm m a b h1 h2).elim

/-! The loops of the reference -/
theorem rdP {l : List S25} {i : Nat} (h : i < l.length) : rd_T25 l (i : Int) = l[i] := by
  unfold rd_T25
  rw [Int.toNat_natCast, getD_at h]
theorem rdE {l : List S46} {i : Nat} (h : i < l.length) : rd_T46 l (i : Int) = l[i] := by
  unfold rd_T46
  rw [Int.toNat_natCast, getD_at h]
theorem rdF {l : List S63} {i : Nat} (h : i < l.length) : rd_T63 l (i : Int) = l[i] := by
  unfold rd_T63
  rw [Int.toNat_natCast, getD_at h]
def firm (l : List S46) : List S25 := (l.filter fun x => decide (x.f1 ≤ 0)).map fun x => x.f0
theorem peers_firm (l : List S46) (hl : l.length < 1099511627776) : peers_Firm.f l = some (firm l) := by
  unfold peers_Firm.f
  rw [if_pos (by omega)]
  rfl
theorem while_at {α : Type} (q : α → Bool) : ∀ (l : List α) (n : Nat), n ≤ l.length → (∀ j (hj : j < l.length), j < n → q l[j] = true) → (∀ (hn : n < l.length), q l[n] = false) → l.takeWhile q = l.take n ∧ l.dropWhile q = l.drop n := by
  intro l
  induction l with
  | nil => intro n _ _ _; simp
  | cons x t ih =>
    intro n hn h1 h2
    cases n with
    | zero =>
      have hx := h2 (by simp)
      simp only [List.getElem_cons_zero] at hx
      rw [List.takeWhile_cons_of_neg (by simp [hx]), List.dropWhile_cons_of_neg (by simp [hx])]
      exact ⟨rfl, rfl⟩
    | succ n =>
      have hx := h1 0 (by simp) (by omega)
      simp only [List.getElem_cons_zero] at hx
      have h := ih n (by simpa using hn) (fun j hj hjn => h1 (j + 1) (Nat.succ_lt_succ hj) (by omega)) (fun hn' => h2 (Nat.succ_lt_succ hn'))
      rw [List.takeWhile_cons_of_pos (by simp [hx]), List.dropWhile_cons_of_pos (by simp [hx]), h.1, h.2]
      exact ⟨rfl, rfl⟩
theorem ins_at (m : Int) (p : S25) (l : List S25) (n : Nat) (hn : n ≤ l.length) (h1 : ∀ j (hj : j < l.length), j < n → lt m l[j] p = true) (h2 : ∀ (hn : n < l.length), lt m l[n] p = false) : ins (lt m) p l = l.take n ++ [p] ++ l.drop n := by
  unfold ins
  have h := while_at (fun q => lt m q p) l n hn h1 h2
  rw [h.1, h.2]
  simp
/-- The places of a list that are taken, from i on. -/
def picks (all : List S25) (me0 me1 key : Int) (i n : Nat) : List S25 := ((List.range' i n).filter (hops_ok all me0 me1 key)).map fun j : Nat => rd_T25 all j
theorem first_is (all : List S25) (i : Nat) (h : i < all.length) (a : Int) (ha : all[i].f1 = a) : (Go.Proofs.YtimihoepnkeioaaW.PrintIdx.firstIdx (fun q : S25 => q.f1 == a) all == (i : Int)) = !((all.take i).any fun q => q.f1 == a) := by
  cases h2 : (all.take i).any fun q => q.f1 == a with
  | false =>
    rw [List.any_eq_false] at h2
    have h3 : Go.Proofs.YtimihoepnkeioaaW.PrintIdx.firstIdx (fun q : S25 => q.f1 == a) all = (i : Int) := firstIdx_hit _ all z25 i h (by rw [getD_at h]; simp [ha]) (fun j hj => by
      have hjl : j < all.length := by omega
      rw [getD_at hjl]
      have h4 := h2 all[j] (by rw [List.mem_take_iff_getElem]; exact ⟨j, by omega, rfl⟩)
      simpa using h4)
    rw [h3]
    simp
  | true =>
    rw [List.any_eq_true] at h2
    obtain ⟨x, hx, hq⟩ := h2
    rw [List.mem_take_iff_getElem] at hx
    obtain ⟨j, hj, rfl⟩ := hx
    simp only [Bool.not_true, beq_eq_false_iff_ne, ne_eq]
    intro h3
    unfold Go.Proofs.YtimihoepnkeioaaW.PrintIdx.firstIdx at h3
    cases h4 : List.findIdx? (fun q : S25 => q.f1 == a) all with
    | none => rw [h4] at h3; simp only at h3; omega
    | some b =>
      rw [h4] at h3
      simp only at h3
      have hb : b = i := by omega
      subst hb
      rw [List.findIdx?_eq_some_iff_getElem] at h4
      obtain ⟨_, _, h5⟩ := h4
      have := h5 j (by omega)
      rw [hq] at this
      exact absurd rfl this
def cut (most : Int) (o : List S25) : List S25 := if most < 0 then [] else o.take most.toNat
theorem picks_is (all : List S25) (me0 me1 key : Int) : picks all me0 me1 key 0 all.length = hops_out all me0 me1 key all.length := by
  unfold picks hops_out
  rw [List.range_eq_range']
theorem firstIdx_lt {α : Type} (q : α → Bool) (l : List α) (i j : Nat) (hi : i < l.length) (hj : j < l.length) (hij : i < j) (h : q l[i] = true) : Go.Proofs.YtimihoepnkeioaaW.PrintIdx.firstIdx q l ≠ (j : Int) := by
  intro h3
  unfold Go.Proofs.YtimihoepnkeioaaW.PrintIdx.firstIdx at h3
  cases h4 : List.findIdx? q l with
  | none => rw [h4] at h3; simp only at h3; omega
  | some b =>
    rw [h4] at h3
    simp only at h3
    have hb : b = j := by omega
    subst hb
    rw [List.findIdx?_eq_some_iff_getElem] at h4
    obtain ⟨_, _, h5⟩ := h4
    have := h5 i hij
    exact absurd h (by simpa using this)
theorem out_apart (all : List S25) (me0 me1 key : Int) : (hops_out all me0 me1 key all.length).Pairwise fun a b => a.f1 ≠ b.f1 := by
  unfold hops_out
  rw [List.pairwise_map]
  have h1 : ((List.range all.length).filter (hops_ok all me0 me1 key)).Pairwise (fun a b => a < b) := List.Pairwise.filter _ List.pairwise_lt_range
  refine List.Pairwise.imp_of_mem ?_ h1
  intro i j hi hj hij
  rw [List.mem_filter, List.mem_range] at hi hj
  intro he
  have hok := hj.2
  unfold hops_ok at hok
  rw [Bool.and_eq_true, Bool.and_eq_true, rdP hj.1, beq_iff_eq] at hok
  rw [rdP hi.1, rdP hj.1] at he
  exact firstIdx_lt (fun q : S25 => q.f1 == all[j].f1) all i j hi.1 hj.1 hij (by simp [he]) hok.1.1
/-- Who lies nearer. -/
def hopsV (me0 me1 : Int) (l1 : List S46) (l2 : List S63) (key most : Int) : List S25 :=
  cut most (sorted (hops_cf me0) (hops_out (hops_all l1 l2) me0 me1 key (hops_all l1 l2).length))
theorem fings_hops (me0 me1 : Int) (l1 : List S46) (l2 : List S63) (key most : Int) (h1 : l1.length < 1099511627776) (h2 : l2.length < 1099511627776) : fings_Hops.f me0 me1 l1 l2 key most = some (hopsV me0 me1 l1 l2 key most) := by
  unfold fings_Hops.f hopsV cut
  rw [if_pos ⟨h1, h2⟩]
  congr 1
  have hl := sorted_length (hops_cf me0) (hops_swo me0) (hops_out (hops_all l1 l2) me0 me1 key (hops_all l1 l2).length)
  by_cases h : most < 0
  · rw [if_pos h, show (max most 0).toNat = 0 by omega, Nat.min_zero, List.take_zero]
  · rw [if_neg h, show (max most 0).toNat = most.toNat by omega, ← hl]
    rcases Nat.le_total (sorted (hops_cf me0) (hops_out (hops_all l1 l2) me0 me1 key (hops_all l1 l2).length)).length most.toNat with h3 | h3
    · rw [Nat.min_eq_left h3, List.take_length, List.take_of_length_le h3]
    · rw [Nat.min_eq_right h3]
theorem firm_len (l : List S46) : (firm l).length ≤ l.length := by
  unfold firm
  rw [List.length_map]
  exact List.length_filter_le _ _
theorem firm_mem {l : List S46} {q : S25} (h : q ∈ firm l) : ∃ x ∈ l, x.f0 = q := by
  unfold firm at h
  rw [List.mem_map] at h
  obtain ⟨x, hx, rfl⟩ := h
  exact ⟨x, (List.mem_filter.1 hx).1, rfl⟩
/-- What is told of each of them. -/
theorem hops_mem {me0 me1 : Int} {l1 : List S46} {l2 : List S63} {key most : Int} {q : S25} (h : q ∈ hopsV me0 me1 l1 l2 key most) : q ∈ hops_all l1 l2 ∧ q.f1 ≠ me1 ∧ btw me0 q.f0 key = true := by
  have h1 : q ∈ sorted (hops_cf me0) (hops_out (hops_all l1 l2) me0 me1 key (hops_all l1 l2).length) := by
    unfold hopsV cut at h
    split at h
    · simp at h
    · exact List.mem_of_mem_take h
  have hs := sorted_spec (hops_cf me0) (hops_swo me0) (hops_out (hops_all l1 l2) me0 me1 key (hops_all l1 l2).length)
  obtain ⟨⟨hsz, _, hp⟩, _⟩ := hs
  have e1 : ((sorted (hops_cf me0) (hops_out (hops_all l1 l2) me0 me1 key (hops_all l1 l2).length)).toArray.extract 0 (hops_out (hops_all l1 l2) me0 me1 key (hops_all l1 l2).length).toArray.size).toList = sorted (hops_cf me0) (hops_out (hops_all l1 l2) me0 me1 key (hops_all l1 l2).length) := by
    rw [← hsz, Array.extract_size]
  have e2 : ((hops_out (hops_all l1 l2) me0 me1 key (hops_all l1 l2).length).toArray.extract 0 (hops_out (hops_all l1 l2) me0 me1 key (hops_all l1 l2).length).toArray.size).toList = hops_out (hops_all l1 l2) me0 me1 key (hops_all l1 l2).length := by rw [Array.extract_size]
  rw [e1, e2] at hp
  have h2 := hp.mem_iff.1 h1
  unfold hops_out at h2
  rw [List.mem_map] at h2
  obtain ⟨i, hi, rfl⟩ := h2
  rw [List.mem_filter, List.mem_range] at hi
  have hok := hi.2
  unfold hops_ok at hok
  rw [Bool.and_eq_true, Bool.and_eq_true, ring_btw] at hok
  refine ⟨?_, bne_iff_ne.1 hok.1.2, ?_⟩
  · rw [rdP hi.1]; exact List.getElem_mem hi.1
  · have := hok.2
    cases hb : btw me0 (rd_T25 (hops_all l1 l2) i).f0 key with
    | true => rfl
    | false => rw [hb] at this; exact absurd this (by decide)
theorem hops_len (me0 me1 : Int) (l1 : List S46) (l2 : List S63) (key most : Int) (h : 0 ≤ most) : (hopsV me0 me1 l1 l2 key most).length ≤ most.toNat := by
  unfold hopsV cut
  rw [if_neg (by omega)]
  exact List.length_take_le _ _
#print axioms hops_mem
end Go.Proofs.Ytimihoepnkeioaa.HopsLaw
