/- It is proved, in plain Lean: what the walk of fings.Hops shows is what the printed reference function Hops computes, for values that are in their types. -/
import Derived.Test.YtnnhmceaoobihaaPx9
import Derived.Test.YtnnhmceaoobihaaPx4
namespace Go.Proofs.Ytnnhmceaoobihaa.HopsLaw
open Go.RowKit Go.Proofs.Ytnnhmceaoobihaa.P Go.Proofs.YtnnhmceaoobihaaW.PrintWords Go.Proofs.YtnnhmceaoobihaaW.PrintLast Go.Proofs.YtnnhmceaoobihaaW.PrintIdx Go.Proofs.YtnnhmceaoobihaaW.PrintSort
set_option linter.unusedVariables false
set_option linter.unusedSimpArgs false

theorem wrap_u64 (n : Int) : IntKind.u64.wrap n = n % 18446744073709551616 := Eq.trans (b := n % 18446744073709551616) rfl rfl
theorem wf_u64 {n : Int} (h : (Lit.int .u64 n).wf = true) : 0 ≤ n ∧ n < 18446744073709551616 := by
  simp only [Lit.wf, Bool.and_eq_true, decide_eq_true_eq] at h
  have h1 : IntKind.u64.min = 0 := rfl
  have h2 : IntKind.u64.max = 18446744073709551615 := rfl
  omega
def U (x : Int) : Prop := 0 ≤ x ∧ x < 18446744073709551616
def dist (m x : Int) : Int := (x - m) % 18446744073709551616
def btw (a x b : Int) : Bool := decide (x ≠ a ∧ (a = b ∨ dist a x < dist a b))

theorem ring_dist (a b : Int) : ring_Dist.f a b = some (dist a b) := by
  unfold ring_Dist.f dist
  rw [wrap_u64]
theorem ring_btw (a x b : Int) : ring_Between.f a x b = some (btw a x b) := by
  unfold ring_Between.f btw
  simp only [ring_dist, Option.bind_some]
  split
  · simp_all
  · split
    · simp_all
    · simp_all
theorem ref_dist {a b : Int} (ha : U a) (hb : U b) : annuletref03_Dist.f a b = some (dist a b) := by
  unfold annuletref03_Dist.f dist
  unfold U at ha hb
  simp only [wrap_u64]
  split
  · rfl
  · congr 1
    omega
theorem ref_upto_is (a x b : Int) : annuletref03_Upto.f a x b = some (decide ((a < b ∧ a < x ∧ x ≤ b) ∨ (b < a ∧ (a < x ∨ x ≤ b)) ∨ a = b)) := by
  unfold annuletref03_Upto.f
  repeat' split
  all_goals (congr 1; first | (symm; apply decide_eq_true; omega) | (symm; apply decide_eq_false; omega) | (rw [decide_eq_decide]; omega))
theorem ref_btw {a x b : Int} (ha : U a) (hx : U x) (hb : U b) : annuletref03_Between.f a x b = some (btw a x b) := by
  unfold annuletref03_Between.f btw dist
  unfold U at ha hx hb
  rw [ref_upto_is]
  split
  · rename_i h
    subst h
    congr 1
    by_cases h2 : x = a <;> simp [h2]
  · rename_i h1
    split
    · rename_i h2
      subst h2
      congr 1
      symm
      apply decide_eq_false
      omega
    · rename_i h2
      simp only [Option.bind_some]
      congr 1
      rw [decide_eq_decide]
      omega

/-! Fuel -/
theorem up {α : Type} {g : Nat → Option α} (h : ∀ k, LeO (g k) (g (k + 1))) {k : Nat} {r : α} (hk : g k = some r) : ∀ k', k ≤ k' → g k' = some r := by
  intro k' hle
  induction hle with
  | refl => exact hk
  | step _ ih => exact h _ r ih
theorem step64 {i n : Nat} (h : i < n) (hn : n < 4611686018427387904) : wrap64 ((i : Int) + 1) = ((i + 1 : Nat) : Int) := by
  unfold wrap64
  omega

/-! Lists -/
def ins {α : Type} (lt : α → α → Bool) (p : α) (l : List α) : List α := l.takeWhile (fun q => lt q p) ++ p :: l.dropWhile (fun q => lt q p)
theorem ins_perm {α : Type} (lt : α → α → Bool) (p : α) (l : List α) : (ins lt p l).Perm (p :: l) := by
  unfold ins
  refine List.perm_middle.trans ?_
  rw [List.takeWhile_append_dropWhile]
theorem ins_pairwise {α : Type} {lt : α → α → Bool} (ht : ∀ x y z, lt x y = true → lt y z = true → lt x z = true) (p : α) (l : List α) (hl : l.Pairwise fun a b => lt a b = true) (hp : ∀ q ∈ l, lt q p = true ∨ lt p q = true) : (ins lt p l).Pairwise fun a b => lt a b = true := by
  induction l with
  | nil => simp [ins]
  | cons q t ih =>
    rw [List.pairwise_cons] at hl
    unfold ins
    cases h : lt q p with
    | true =>
      rw [List.takeWhile_cons_of_pos (by simpa using h), List.dropWhile_cons_of_pos (by simpa using h), List.cons_append, List.pairwise_cons]
      refine ⟨fun a ha => ?_, ih hl.2 (fun x hx => hp x (List.mem_cons_of_mem _ hx))⟩
      have ha' : a ∈ ins lt p t := ha
      rcases List.mem_cons.1 ((ins_perm lt p t).mem_iff.1 ha') with rfl | h2
      · exact h
      · exact hl.1 a h2
    | false =>
      rw [List.takeWhile_cons_of_neg (by simp [h]), List.dropWhile_cons_of_neg (by simp [h]), List.nil_append, List.pairwise_cons]
      have hpq : lt p q = true := by
        rcases hp q List.mem_cons_self with h1 | h1
        · rw [h] at h1; cases h1
        · exact h1
      refine ⟨fun a ha => ?_, List.pairwise_cons.2 hl⟩
      rcases List.mem_cons.1 ha with rfl | h2
      · exact hpq
      · exact ht _ _ _ hpq (hl.1 a h2)
theorem fold_ins {α : Type} {lt : α → α → Bool} (ht : ∀ x y z, lt x y = true → lt y z = true → lt x z = true) (X : List α) : ∀ (o : List α), o.Pairwise (fun a b => lt a b = true) → (∀ x ∈ X, ∀ q ∈ o, lt q x = true ∨ lt x q = true) → X.Pairwise (fun a b => lt a b = true ∨ lt b a = true) →
    (X.foldl (fun o p => ins lt p o) o).Pairwise (fun a b => lt a b = true) ∧ (X.foldl (fun o p => ins lt p o) o).Perm (o ++ X) := by
  induction X with
  | nil => intro o ho _ _; exact ⟨ho, by simp⟩
  | cons x t ih =>
    intro o ho hx hX
    rw [List.pairwise_cons] at hX
    rw [List.foldl_cons]
    have h1 := ins_pairwise ht x o ho (fun q hq => hx x List.mem_cons_self q hq)
    have h2 := ih (ins lt x o) h1 (fun y hy q hq => by
      rcases List.mem_cons.1 ((ins_perm lt x o).mem_iff.1 hq) with rfl | h3
      · exact hX.1 y hy
      · exact hx y (List.mem_cons_of_mem _ hy) q h3) hX.2
    refine ⟨h2.1, h2.2.trans ?_⟩
    have h3 := (ins_perm lt x o).append_right t
    refine h3.trans ?_
    rw [List.cons_append]
    exact List.perm_middle.symm

def lt (m : Int) (x y : S26) : Bool := decide (dist m y.f0 < dist m x.f0 ∨ dist m y.f0 = dist m x.f0 ∧ x.f1 < y.f1)
theorem lt_is (m : Int) : Go.Proofs.ltOf (hops_cf m) = lt m := by
  funext x y
  rw [hops_lt]
  unfold lt dist
  simp only [wrap_u64]
theorem lt_trans (m : Int) (x y z : S26) (h1 : lt m x y = true) (h2 : lt m y z = true) : lt m x z = true := by
  unfold lt at *
  simp only [decide_eq_true_eq] at *
  omega
theorem lt_either (m : Int) (x y : S26) (h : x.f1 ≠ y.f1) : lt m x y = true ∨ lt m y x = true := by
  unfold lt
  simp only [decide_eq_true_eq]
  omega
theorem lt_antisymm (m : Int) (x y : S26) (h1 : lt m x y = true) (h2 : lt m y x = true) : False := by
  unfold lt at *
  simp only [decide_eq_true_eq] at *
  omega
/-- An insertion of each, one behind the other, is the sort. -/
theorem fold_sorted (m : Int) (X : List S26) (hX : X.Pairwise fun a b => a.f1 ≠ b.f1) : X.foldl (fun o p => ins (lt m) p o) [] = sorted (hops_cf m) X := by
  have hf := fold_ins (lt_trans m) X [] List.Pairwise.nil (fun _ _ q hq => by simp at hq) (hX.imp (fun h => lt_either m _ _ h))
  rw [List.nil_append] at hf
  have hs := sorted_spec (hops_cf m) (hops_swo m) X
  rw [lt_is] at hs
  obtain ⟨⟨hsz, _, hp⟩, hso⟩ := hs
  have hl := sorted_length (hops_cf m) (hops_swo m) X
  have hperm : (sorted (hops_cf m) X).Perm X := by
    have e1 : ((sorted (hops_cf m) X).toArray.extract 0 X.toArray.size).toList = sorted (hops_cf m) X := by
      rw [← hsz, Array.extract_size]
    have e2 : (X.toArray.extract 0 X.toArray.size).toList = X := by rw [Array.extract_size]
    rw [e1, e2] at hp
    exact hp
  have hne : (sorted (hops_cf m) X).Pairwise fun a b => a.f1 ≠ b.f1 := (hperm.pairwise_iff (fun h => Ne.symm h)).2 hX
  have hpw : (sorted (hops_cf m) X).Pairwise fun a b => lt m a b = true := by
    rw [List.pairwise_iff_getElem] at hne ⊢
    intro i j hi hj hij
    have h1 := hso i j (Nat.zero_le _) hij (by rw [List.size_toArray]; omega)
    rw [getElem!_pos _ _ (by simpa using hj), getElem!_pos _ _ (by simpa using hi)] at h1
    rcases lt_either m _ _ (hne i j hi hj hij) with h2 | h2
    · exact h2
    · simp only [List.getElem_toArray] at h1
      rw [h1] at h2
      cases h2
  refine List.Perm.eq_of_pairwise (le := fun a b => lt m a b = true) ?_ hf.1 hpw (hf.2.trans hperm.symm)
  intro a b _ _ h1 h2
  exact (lt_antisymm m a b h1 h2).elim

/-! The loops of the reference -/
theorem rdP {l : List S26} {i : Nat} (h : i < l.length) : rd_T26 l (i : Int) = l[i] := by
  unfold rd_T26
  rw [Int.toNat_natCast, getD_at h]
theorem rdE {l : List S43} {i : Nat} (h : i < l.length) : rd_T43 l (i : Int) = l[i] := by
  unfold rd_T43
  rw [Int.toNat_natCast, getD_at h]
theorem rdF {l : List S45} {i : Nat} (h : i < l.length) : rd_T45 l (i : Int) = l[i] := by
  unfold rd_T45
  rw [Int.toNat_natCast, getD_at h]
def firm (l : List S43) : List S26 := (l.filter fun x => decide (x.f1 ≤ 0)).map fun x => x.f0
theorem firm_loop (l : List S43) (hl : l.length < 1099511627776) : ∀ n i (o : List S26), i + n = l.length → o.length ≤ i → annuletref27_Firm.l0 (n + 1) l o (i : Int) = some (o ++ firm (l.drop i)) := by
  intro n
  induction n with
  | zero =>
    intro i o hi _
    have hi' : i = l.length := by omega
    subst hi'
    rw [annuletref27_Firm.l0]
    rw [if_neg (by omega), List.drop_length]
    simp [firm]
  | succ n ih =>
    intro i o hi ho
    have hlt : i < l.length := by omega
    rw [annuletref27_Firm.l0]
    rw [if_pos (by omega), if_pos (by omega), rdE hlt, step64 hlt (by omega), List.drop_eq_getElem_cons hlt]
    by_cases h : l[i].f1 < 1
    · rw [if_pos h, if_pos (by omega)]
      rw [ih (i + 1) _ (by omega) (by rw [List.length_append, List.length_singleton]; omega)]
      have h2 : decide (l[i].f1 ≤ 0) = true := decide_eq_true (by omega)
      unfold firm
      rw [List.filter_cons, if_pos h2, List.map_cons, List.append_assoc]
      rfl
    · rw [if_neg h]
      rw [ih (i + 1) _ (by omega) (by omega)]
      have h2 : ¬ decide (l[i].f1 ≤ 0) = true := by rw [decide_eq_true_eq]; omega
      unfold firm
      rw [List.filter_cons, if_neg h2]
theorem ref_firm (l : List S43) (hl : l.length < 1099511627776) : annuletref27_Firm.f (l.length + 1) l = some (firm l) := by
  unfold annuletref27_Firm.f
  have h := firm_loop l hl l.length 0 [] (by omega) (by simp)
  rw [List.drop_zero, List.nil_append] at h
  exact h
theorem ref_firm_k (l : List S43) (hl : l.length < 1099511627776) (k : Nat) (hk : l.length + 1 ≤ k) : annuletref27_Firm.f k l = some (firm l) := up (g := fun k => annuletref27_Firm.f k l) (fun k => annuletref27_Firm.mono _ k) (ref_firm l hl) k hk
theorem peers_firm (l : List S43) (hl : l.length < 1099511627776) : peers_Firm.f l = some (firm l) := by
  unfold peers_Firm.f
  rw [if_pos (by omega)]
  rfl
theorem there_loop (l : List S26) (a : Int) (hl : l.length < 4398046511104) : ∀ n i, i + n = l.length → annuletref28_there.l0 (n + 1) l a (i : Int) = some ((l.drop i).any fun q => q.f1 == a) := by
  intro n
  induction n with
  | zero =>
    intro i hi
    have hi' : i = l.length := by omega
    subst hi'
    rw [annuletref28_there.l0]
    rw [if_neg (by omega), List.drop_length]
    rfl
  | succ n ih =>
    intro i hi
    have hlt : i < l.length := by omega
    rw [annuletref28_there.l0]
    rw [if_pos (by omega), if_pos (by omega), rdP hlt, step64 hlt (by omega), List.drop_eq_getElem_cons hlt, List.any_cons]
    by_cases h : l[i].f1 = a
    · rw [if_pos h, beq_iff_eq.2 h, Bool.true_or]
    · rw [if_neg h, ih (i + 1) (by omega), beq_eq_false_iff_ne.2 h, Bool.false_or]
theorem ref_there (l : List S26) (a : Int) (hl : l.length < 4398046511104) (k : Nat) (hk : l.length + 1 ≤ k) : annuletref28_there.f k l a = some (l.any fun q => q.f1 == a) := by
  refine up (g := fun k => annuletref28_there.f k l a) (fun k => annuletref28_there.mono _ _ k) (k := l.length + 1) ?_ k hk
  unfold annuletref28_there.f
  have h := there_loop l a hl l.length 0 (by omega)
  rw [List.drop_zero] at h
  exact h
theorem while_at {α : Type} (q : α → Bool) : ∀ (l : List α) (n : Nat), n ≤ l.length → (∀ j (hj : j < l.length), j < n → q l[j] = true) → (∀ (hn : n < l.length), q l[n] = false) → l.takeWhile q = l.take n ∧ l.dropWhile q = l.drop n := by
  intro l
  induction l with
  | nil => intro n _ _ _; simp
  | cons x t ih =>
    intro n hn h1 h2
    cases n with
    | zero =>
      have hx := h2 (by simp)
      simp only [List.getElem_cons_zero] at hx
      rw [List.takeWhile_cons_of_neg (by simp [hx]), List.dropWhile_cons_of_neg (by simp [hx])]
      exact ⟨rfl, rfl⟩
    | succ n =>
      have hx := h1 0 (by simp) (by omega)
      simp only [List.getElem_cons_zero] at hx
      have h := ih n (by simpa using hn) (fun j hj hjn => h1 (j + 1) (Nat.succ_lt_succ hj) (by omega)) (fun hn' => h2 (Nat.succ_lt_succ hn'))
      rw [List.takeWhile_cons_of_pos (by simp [hx]), List.dropWhile_cons_of_pos (by simp [hx]), h.1, h.2]
      exact ⟨rfl, rfl⟩
theorem ins_at (m : Int) (p : S26) (l : List S26) (n : Nat) (hn : n ≤ l.length) (h1 : ∀ j (hj : j < l.length), j < n → lt m l[j] p = true) (h2 : ∀ (hn : n < l.length), lt m l[n] p = false) : ins (lt m) p l = l.take n ++ [p] ++ l.drop n := by
  unfold ins
  have h := while_at (fun q => lt m q p) l n hn h1 h2
  rw [h.1, h.2]
  simp
theorem l1_up {k : Nat} {x3 x4 : Int} {all met o : List S26} {i me0 me1 : Int} {r : List S26} (h : annuletref28_Hops.l1 k x3 x4 all met o i me0 me1 = some r) (k' : Nat) (hk : k ≤ k') : annuletref28_Hops.l1 k' x3 x4 all met o i me0 me1 = some r :=
  up (g := fun k => annuletref28_Hops.l1 k x3 x4 all met o i me0 me1) (fun k => (annuletref28_Hops.mono_l k).2.1 _ _ _ _ _ _ _ _) h k' hk
theorem l2_is (k : Nat) (key most : Int) (all met o : List S26) (i me0 me1 p0 p1 : Int) (r : List S26) (hme : U me0) (ho : ∀ q ∈ o, U q.f0) (hl : o.length < 4398046511104)
    (h : annuletref28_Hops.l1 k key most all met (ins (lt me0) ⟨p0, p1⟩ o) (wrap64 (i + 1)) me0 me1 = some r) :
    ∀ n at_, at_ + n = o.length → (∀ j (hj : j < o.length), j < at_ → lt me0 o[j] ⟨p0, p1⟩ = true) → annuletref28_Hops.l2 (k + n + 1) key most all met o i (at_ : Int) (dist me0 p0) me0 me1 p0 p1 = some r := by
  intro n
  induction n with
  | zero =>
    intro a ha h1
    rw [annuletref28_Hops.l2, if_neg (by omega)]
    have e := ins_at me0 ⟨p0, p1⟩ o a (by omega) h1 (fun hn => by omega)
    rw [e] at h
    simp only [Option.bind_some, List.nil_append, List.length_nil, Int.toNat_natCast]
    have htk := List.length_take_le a o
    have hdl := List.length_drop (l := o) (i := a)
    rw [if_pos (by omega), if_pos (by omega), if_pos (by omega), if_pos (by omega), if_pos (by rw [List.length_append, List.length_singleton]; omega)]
    exact h
  | succ n ih =>
    intro a ha h1
    have hlt : a < o.length := by omega
    rw [annuletref28_Hops.l2, if_pos (by omega), if_pos (by omega), rdP hlt, ref_dist hme (ho _ (List.getElem_mem hlt))]
    simp only [Option.bind_some]
    have hst : lt me0 o[a] ⟨p0, p1⟩ = true → annuletref28_Hops.l2 (k + (n + 1)) key most all met o i (wrap64 ((a : Int) + 1)) (dist me0 p0) me0 me1 p0 p1 = some r := by
      intro hlt2
      rw [step64 hlt (by omega)]
      refine ih (a + 1) (by omega) (fun j hj hja => ?_)
      by_cases hj2 : j < a
      · exact h1 j hj hj2
      · have : j = a := by omega
        subst this
        exact hlt2
    have hfin : lt me0 o[a] ⟨p0, p1⟩ = false → annuletref28_Hops.l1 (k + (n + 1)) key most all met (o.take a ++ [⟨p0, p1⟩] ++ o.drop a) (wrap64 (i + 1)) me0 me1 = some r := by
      intro hf
      have e := ins_at me0 ⟨p0, p1⟩ o a (by omega) h1 (fun _ => hf)
      rw [e] at h
      exact l1_up h _ (by omega)
    have htk := List.length_take_le a o
    have hdl := List.length_drop (l := o) (i := a)
    by_cases c1 : dist me0 o[a].f0 > dist me0 p0
    · rw [if_pos c1]
      exact hst (by unfold lt; exact decide_eq_true (.inl c1))
    · rw [if_neg c1]
      by_cases c2 : dist me0 o[a].f0 = dist me0 p0
      · rw [if_pos c2]
        by_cases c3 : o[a].f1 < p1
        · rw [if_pos c3]
          exact hst (by unfold lt; exact decide_eq_true (.inr ⟨c2.symm, c3⟩))
        · rw [if_neg c3]
          simp only [Option.bind_some, List.nil_append, List.length_nil, Int.toNat_natCast]
          rw [if_pos (by omega), if_pos (by omega), if_pos (by omega), if_pos (by rw [List.length_append, List.length_singleton]; omega)]
          exact hfin (by unfold lt; exact decide_eq_false (fun hh => by rcases hh with hh | hh; exact c1 hh; exact c3 hh.2))
      · rw [if_neg c2]
        simp only [Option.bind_some, List.nil_append, List.length_nil, Int.toNat_natCast]
        rw [if_pos (by omega), if_pos (by omega), if_pos (by omega), if_pos (by rw [List.length_append, List.length_singleton]; omega)]
        exact hfin (by unfold lt; exact decide_eq_false (fun hh => by rcases hh with hh | hh; exact c1 hh; exact c2 hh.1.symm))

/-- The places of a list that are taken, from i on. -/
def picks (all : List S26) (me0 me1 key : Int) (i n : Nat) : List S26 := ((List.range' i n).filter (hops_ok all me0 me1 key)).map fun j : Nat => rd_T26 all j
theorem first_is (all : List S26) (i : Nat) (h : i < all.length) (a : Int) (ha : all[i].f1 = a) : (Go.Proofs.YtnnhmceaoobihaaW.PrintIdx.firstIdx (fun q : S26 => q.f1 == a) all == (i : Int)) = !((all.take i).any fun q => q.f1 == a) := by
  cases h2 : (all.take i).any fun q => q.f1 == a with
  | false =>
    rw [List.any_eq_false] at h2
    have h3 : Go.Proofs.YtnnhmceaoobihaaW.PrintIdx.firstIdx (fun q : S26 => q.f1 == a) all = (i : Int) := firstIdx_hit _ all z26 i h (by rw [getD_at h]; simp [ha]) (fun j hj => by
      have hjl : j < all.length := by omega
      rw [getD_at hjl]
      have h4 := h2 all[j] (by rw [List.mem_take_iff_getElem]; exact ⟨j, by omega, rfl⟩)
      simpa using h4)
    rw [h3]
    simp
  | true =>
    rw [List.any_eq_true] at h2
    obtain ⟨x, hx, hq⟩ := h2
    rw [List.mem_take_iff_getElem] at hx
    obtain ⟨j, hj, rfl⟩ := hx
    simp only [Bool.not_true, beq_eq_false_iff_ne, ne_eq]
    intro h3
    unfold Go.Proofs.YtnnhmceaoobihaaW.PrintIdx.firstIdx at h3
    cases h4 : List.findIdx? (fun q : S26 => q.f1 == a) all with
    | none => rw [h4] at h3; simp only at h3; omega
    | some b =>
      rw [h4] at h3
      simp only at h3
      have hb : b = i := by omega
      subst hb
      rw [List.findIdx?_eq_some_iff_getElem] at h4
      obtain ⟨_, _, h5⟩ := h4
      have := h5 j (by omega)
      rw [hq] at this
      exact absurd rfl this
def cut (most : Int) (o : List S26) : List S26 := if most < 0 then [] else o.take most.toNat
theorem l1_is (key most me0 me1 : Int) (hkey : U key) (hme : U me0) (all : List S26) (hall : ∀ q ∈ all, U q.f0) (hl : all.length < 2199023255552) :
    ∀ n i (met o : List S26), i + n = all.length → met.length ≤ i → o.length ≤ i → (∀ q ∈ o, U q.f0) → (∀ a, a ≠ me1 → (met.any fun q => q.f1 == a) = ((all.take i).any fun q => q.f1 == a)) →
      ∃ k, annuletref28_Hops.l1 k key most all met o (i : Int) me0 me1 = some (cut most ((picks all me0 me1 key i n).foldl (fun o p => ins (lt me0) p o) o)) := by
  intro n
  induction n with
  | zero =>
    intro i met o hi hm ho hou hmet
    refine ⟨1, ?_⟩
    rw [annuletref28_Hops.l1, if_neg (by omega)]
    unfold picks cut
    simp only [List.range'_zero, List.filter_nil, List.map_nil, List.foldl_nil]
    by_cases h1 : most < 0
    · rw [if_pos h1, if_pos h1]
    · rw [if_neg h1, if_neg h1]
      by_cases h2 : (o.length : Int) > most
      · rw [if_pos h2, if_pos (by omega), if_pos (by omega)]
      · rw [if_neg h2, List.take_of_length_le (by omega)]
  | succ n ih =>
    intro i met o hi hm ho hou hmet
    have hlt : i < all.length := by omega
    have hpu : U all[i].f0 := hall _ (List.getElem_mem hlt)
    have htake : ∀ a, ((all.take (i + 1)).any fun q => q.f1 == a) = (((all.take i).any fun q => q.f1 == a) || (all[i].f1 == a)) := fun a => by
      rw [List.take_succ_eq_append_getElem hlt, List.any_append]
      simp
    have hok : hops_ok all me0 me1 key i = (!((all.take i).any fun q => q.f1 == all[i].f1) && (all[i].f1 != me1) && btw me0 all[i].f0 key) := by
      unfold hops_ok
      rw [rdP hlt, first_is all i hlt all[i].f1 rfl, ring_btw]
      congr 1
      cases btw me0 all[i].f0 key <;> rfl
    have hpk : picks all me0 me1 key i (n + 1) = (if hops_ok all me0 me1 key i = true then [all[i]] else []) ++ picks all me0 me1 key (i + 1) n := by
      unfold picks
      rw [List.range'_succ, List.filter_cons]
      split
      · rw [List.map_cons, rdP hlt]; rfl
      · rfl
    by_cases c1 : ((all.take i).any fun q => q.f1 == all[i].f1) = true ∨ all[i].f1 = me1
    · -- passed over
      have hno : hops_ok all me0 me1 key i = false := by
        rw [hok]
        rcases c1 with c1 | c1
        · rw [c1]; rfl
        · have : (all[i].f1 != me1) = false := bne_eq_false_iff_eq.2 c1
          rw [this, Bool.and_false, Bool.false_and]
      rw [hno] at hpk
      obtain ⟨k, hk⟩ := ih (i + 1) met o (by omega) (by omega) (by omega) hou (fun a ha => by
        rw [hmet a ha, htake]
        rcases c1 with c1 | c1
        · by_cases h2 : all[i].f1 = a
          · subst h2; rw [c1]; simp
          · rw [beq_eq_false_iff_ne.2 h2, Bool.or_false]
        · have : (all[i].f1 == a) = false := beq_eq_false_iff_ne.2 (fun h => ha (by rw [← h, c1]))
          rw [this, Bool.or_false])
      refine ⟨max k (met.length + 1) + 2, ?_⟩
      rw [annuletref28_Hops.l1, if_pos (by omega), if_pos (by omega), rdP hlt, ref_there met _ (by omega) _ (by omega), Option.bind_some]
      have hj : annuletref28_Hops.j2 (max k (met.length + 1) + 1) key most all met o (i : Int) true me0 me1 all[i].f0 all[i].f1 = some (cut most ((picks all me0 me1 key i (n + 1)).foldl (fun o p => ins (lt me0) p o) o)) := by
        rw [annuletref28_Hops.j2, if_pos rfl, step64 hlt (by omega), hpk]
        exact l1_up hk _ (by omega)
      split
      · exact hj
      · rename_i h3
        have h4 : (all[i].f1 == me1) = true := by
          rcases c1 with c1 | c1
          · by_cases h5 : all[i].f1 = me1
            · exact beq_iff_eq.2 h5
            · exact absurd ((hmet _ h5).trans c1) h3
          · exact beq_iff_eq.2 c1
        rw [h4]
        exact hj
    · have c2 : ((all.take i).any fun q => q.f1 == all[i].f1) = false := by
        cases h : (all.take i).any fun q => q.f1 == all[i].f1 with
        | false => rfl
        | true => exact absurd (.inl h) c1
      have c3 : all[i].f1 ≠ me1 := fun h => c1 (.inr h)
      have hmt : (met.any fun q => q.f1 == all[i].f1) = false := (hmet _ c3).trans c2
      have hok2 : hops_ok all me0 me1 key i = btw me0 all[i].f0 key := by
        rw [hok, c2, bne_iff_ne.2 c3]; rfl
      have hmet2 : ∀ a, a ≠ me1 → ((met ++ [all[i]]).any fun q => q.f1 == a) = ((all.take (i + 1)).any fun q => q.f1 == a) := fun a ha => by
        rw [List.any_append, hmet a ha, htake]
        simp
      have hml : (met ++ [all[i]]).length ≤ i + 1 := by rw [List.length_append, List.length_singleton]; omega
      cases hb : btw me0 all[i].f0 key with
      | false =>
        rw [hok2, hb] at hpk
        obtain ⟨k, hk⟩ := ih (i + 1) (met ++ [all[i]]) o (by omega) hml (by omega) hou hmet2
        refine ⟨max k (met.length + 1) + 2, ?_⟩
        rw [annuletref28_Hops.l1, if_pos (by omega), if_pos (by omega), rdP hlt, ref_there met _ (by omega) _ (by omega), Option.bind_some, hmt, if_neg (by decide), beq_eq_false_iff_ne.2 c3]
        rw [annuletref28_Hops.j2, if_neg (by decide), if_pos (by omega), Option.bind_some, ref_btw hme hpu hkey, hb, Option.bind_some, if_neg (by decide), step64 hlt (by omega), hpk]
        exact l1_up hk _ (by omega)
      | true =>
        rw [hok2, hb] at hpk
        have hil : (ins (lt me0) all[i] o).length = o.length + 1 := by rw [(ins_perm _ _ _).length_eq, List.length_cons]
        obtain ⟨k, hk⟩ := ih (i + 1) (met ++ [all[i]]) (ins (lt me0) all[i] o) (by omega) hml (by omega) (fun q hq => by
          rcases List.mem_cons.1 ((ins_perm _ _ _).mem_iff.1 hq) with rfl | h5
          · exact hpu
          · exact hou q h5) hmet2
        refine ⟨max (max k (met.length + 1)) (k + o.length + 1) + 2, ?_⟩
        rw [annuletref28_Hops.l1, if_pos (by omega), if_pos (by omega), rdP hlt, ref_there met _ (by omega) _ (by omega), Option.bind_some, hmt, if_neg (by decide), beq_eq_false_iff_ne.2 c3]
        rw [annuletref28_Hops.j2, if_neg (by decide), if_pos (by omega), Option.bind_some, ref_btw hme hpu hkey, hb, Option.bind_some, if_pos rfl, ref_dist hme hpu, Option.bind_some, hpk]
        have h6 := l2_is k key most all (met ++ [all[i]]) o (i : Int) me0 me1 all[i].f0 all[i].f1 _ hme hou (by omega) (by rw [step64 hlt (by omega)]; exact hk) o.length 0 (by omega) (fun j _ hj => absurd hj (Nat.not_lt_zero _))
        exact up (g := fun k => annuletref28_Hops.l2 k key most all (met ++ [all[i]]) o (i : Int) 0 (dist me0 all[i].f0) me0 me1 all[i].f0 all[i].f1) (fun k => (annuletref28_Hops.mono_l k).2.2.2 _ _ _ _ _ _ _ _ _ _ _ _) h6 _ (by omega)
theorem l0_is (l2 : List S45) (hl : l2.length < 1099511627776) (key most me0 me1 : Int) (k : Nat) (r : List S26) (N : Nat) (hN : N < 1099511627776) : ∀ n i (o : List S26), i + n = l2.length → o.length ≤ N + i →
    annuletref28_Hops.l1 k key most (o ++ (l2.drop i).map fun x => x.f1) [] [] 0 me0 me1 = some r → annuletref28_Hops.l0 (k + n + 1) l2 key most o (i : Int) me0 me1 = some r := by
  intro n
  induction n with
  | zero =>
    intro i o hi ho h
    have hi' : i = l2.length := by omega
    subst hi'
    rw [annuletref28_Hops.l0, if_neg (by omega)]
    rw [List.drop_length, List.map_nil, List.append_nil] at h
    exact h
  | succ n ih =>
    intro i o hi ho h
    have hlt : i < l2.length := by omega
    rw [annuletref28_Hops.l0, if_pos (by omega), if_pos (by omega), if_pos (by omega), rdF hlt, step64 hlt (by omega)]
    refine ih (i + 1) _ (by omega) (by rw [List.length_append, List.length_singleton]; omega) ?_
    rw [List.append_assoc]
    rw [List.drop_eq_getElem_cons hlt, List.map_cons] at h
    exact h
theorem picks_is (all : List S26) (me0 me1 key : Int) : picks all me0 me1 key 0 all.length = hops_out all me0 me1 key all.length := by
  unfold picks hops_out
  rw [List.range_eq_range']
theorem firstIdx_lt {α : Type} (q : α → Bool) (l : List α) (i j : Nat) (hi : i < l.length) (hj : j < l.length) (hij : i < j) (h : q l[i] = true) : Go.Proofs.YtnnhmceaoobihaaW.PrintIdx.firstIdx q l ≠ (j : Int) := by
  intro h3
  unfold Go.Proofs.YtnnhmceaoobihaaW.PrintIdx.firstIdx at h3
  cases h4 : List.findIdx? q l with
  | none => rw [h4] at h3; simp only at h3; omega
  | some b =>
    rw [h4] at h3
    simp only at h3
    have hb : b = j := by omega
    subst hb
    rw [List.findIdx?_eq_some_iff_getElem] at h4
    obtain ⟨_, _, h5⟩ := h4
    have := h5 i hij
    exact absurd h (by simpa using this)
theorem out_apart (all : List S26) (me0 me1 key : Int) : (hops_out all me0 me1 key all.length).Pairwise fun a b => a.f1 ≠ b.f1 := by
  unfold hops_out
  rw [List.pairwise_map]
  have h1 : ((List.range all.length).filter (hops_ok all me0 me1 key)).Pairwise (fun a b => a < b) := List.Pairwise.filter _ List.pairwise_lt_range
  refine List.Pairwise.imp_of_mem ?_ h1
  intro i j hi hj hij
  rw [List.mem_filter, List.mem_range] at hi hj
  intro he
  have hok := hj.2
  unfold hops_ok at hok
  rw [Bool.and_eq_true, Bool.and_eq_true, rdP hj.1, beq_iff_eq] at hok
  rw [rdP hi.1, rdP hj.1] at he
  exact firstIdx_lt (fun q : S26 => q.f1 == all[j].f1) all i j hi.1 hj.1 hij (by simp [he]) hok.1.1
/-- Who lies nearer. -/
def hopsV (me0 me1 : Int) (l1 : List S43) (l2 : List S45) (key most : Int) : List S26 :=
  cut most (sorted (hops_cf me0) (hops_out (hops_all l1 l2) me0 me1 key (hops_all l1 l2).length))
theorem fings_hops (me0 me1 : Int) (l1 : List S43) (l2 : List S45) (key most : Int) (h1 : l1.length < 1099511627776) (h2 : l2.length < 1099511627776) : fings_Hops.f me0 me1 l1 l2 key most = some (hopsV me0 me1 l1 l2 key most) := by
  unfold fings_Hops.f hopsV cut
  rw [if_pos ⟨h1, h2⟩]
  congr 1
  have hl := sorted_length (hops_cf me0) (hops_swo me0) (hops_out (hops_all l1 l2) me0 me1 key (hops_all l1 l2).length)
  by_cases h : most < 0
  · rw [if_pos h, show (max most 0).toNat = 0 by omega, Nat.min_zero, List.take_zero]
  · rw [if_neg h, show (max most 0).toNat = most.toNat by omega, ← hl]
    rcases Nat.le_total (sorted (hops_cf me0) (hops_out (hops_all l1 l2) me0 me1 key (hops_all l1 l2).length)).length most.toNat with h3 | h3
    · rw [Nat.min_eq_left h3, List.take_length, List.take_of_length_le h3]
    · rw [Nat.min_eq_right h3]
theorem firm_len (l : List S43) : (firm l).length ≤ l.length := by
  unfold firm
  rw [List.length_map]
  exact List.length_filter_le _ _
theorem firm_mem {l : List S43} {q : S26} (h : q ∈ firm l) : ∃ x ∈ l, x.f0 = q := by
  unfold firm at h
  rw [List.mem_map] at h
  obtain ⟨x, hx, rfl⟩ := h
  exact ⟨x, (List.mem_filter.1 hx).1, rfl⟩
theorem ref_hops (me0 me1 : Int) (l1 : List S43) (l2 : List S45) (key most : Int) (hkey : U key) (hme : U me0) (h1 : l1.length < 549755813888) (h2 : l2.length < 549755813888) (u1 : ∀ x ∈ l1, U x.f0.f0) (u2 : ∀ x ∈ l2, U x.f1.f0) :
    ∃ k, ∀ k', k ≤ k' → annuletref28_Hops.f k' me0 me1 l1 l2 key most = some (hopsV me0 me1 l1 l2 key most) := by
  have hfl := firm_len l1
  have hall : hops_all l1 l2 = firm l1 ++ l2.map fun x => x.f1 := rfl
  have hal : (hops_all l1 l2).length < 2199023255552 := by rw [hall, List.length_append, List.length_map]; omega
  have hau : ∀ q ∈ hops_all l1 l2, U q.f0 := by
    intro q hq
    rw [hall, List.mem_append] at hq
    rcases hq with hq | hq
    · obtain ⟨x, hx, rfl⟩ := firm_mem hq
      exact u1 x hx
    · rw [List.mem_map] at hq
      obtain ⟨x, hx, rfl⟩ := hq
      exact u2 x hx
  obtain ⟨k, hk⟩ := l1_is key most me0 me1 hkey hme (hops_all l1 l2) hau hal (hops_all l1 l2).length 0 [] [] (by omega) (Nat.le_refl _) (Nat.le_refl _) (by simp) (by simp)
  rw [picks_is, fold_sorted me0 _ (out_apart _ _ _ _)] at hk
  have h0 := l0_is l2 (by omega) key most me0 me1 k _ l1.length (by omega) l2.length 0 (firm l1) (by omega) (by omega) (by rw [List.drop_zero]; exact hk)
  refine ⟨max (l1.length + 1) (k + l2.length + 1), fun k' hk' => ?_⟩
  unfold annuletref28_Hops.f
  rw [ref_firm_k l1 (by omega) k' (by omega), Option.bind_some]
  exact up (g := fun k => annuletref28_Hops.l0 k l2 key most (firm l1) 0 me0 me1) (fun k => (annuletref28_Hops.mono_l k).1 _ _ _ _ _ _ _) h0 k' (by omega)
/-- What is told of each of them. -/
theorem hops_mem {me0 me1 : Int} {l1 : List S43} {l2 : List S45} {key most : Int} {q : S26} (h : q ∈ hopsV me0 me1 l1 l2 key most) : q ∈ hops_all l1 l2 ∧ q.f1 ≠ me1 ∧ btw me0 q.f0 key = true := by
  have h1 : q ∈ sorted (hops_cf me0) (hops_out (hops_all l1 l2) me0 me1 key (hops_all l1 l2).length) := by
    unfold hopsV cut at h
    split at h
    · simp at h
    · exact List.mem_of_mem_take h
  have hs := sorted_spec (hops_cf me0) (hops_swo me0) (hops_out (hops_all l1 l2) me0 me1 key (hops_all l1 l2).length)
  obtain ⟨⟨hsz, _, hp⟩, _⟩ := hs
  have e1 : ((sorted (hops_cf me0) (hops_out (hops_all l1 l2) me0 me1 key (hops_all l1 l2).length)).toArray.extract 0 (hops_out (hops_all l1 l2) me0 me1 key (hops_all l1 l2).length).toArray.size).toList = sorted (hops_cf me0) (hops_out (hops_all l1 l2) me0 me1 key (hops_all l1 l2).length) := by
    rw [← hsz, Array.extract_size]
  have e2 : ((hops_out (hops_all l1 l2) me0 me1 key (hops_all l1 l2).length).toArray.extract 0 (hops_out (hops_all l1 l2) me0 me1 key (hops_all l1 l2).length).toArray.size).toList = hops_out (hops_all l1 l2) me0 me1 key (hops_all l1 l2).length := by rw [Array.extract_size]
  rw [e1, e2] at hp
  have h2 := hp.mem_iff.1 h1
  unfold hops_out at h2
  rw [List.mem_map] at h2
  obtain ⟨i, hi, rfl⟩ := h2
  rw [List.mem_filter, List.mem_range] at hi
  have hok := hi.2
  unfold hops_ok at hok
  rw [Bool.and_eq_true, Bool.and_eq_true, ring_btw] at hok
  refine ⟨?_, bne_iff_ne.1 hok.1.2, ?_⟩
  · rw [rdP hi.1]; exact List.getElem_mem hi.1
  · have := hok.2
    cases hb : btw me0 (rd_T26 (hops_all l1 l2) i).f0 key with
    | true => rfl
    | false => rw [hb] at this; exact absurd this (by decide)
theorem hops_len (me0 me1 : Int) (l1 : List S43) (l2 : List S45) (key most : Int) (h : 0 ≤ most) : (hopsV me0 me1 l1 l2 key most).length ≤ most.toNat := by
  unfold hopsV cut
  rw [if_neg (by omega)]
  exact List.length_take_le _ _
#print axioms ref_hops
#print axioms hops_mem
end Go.Proofs.Ytnnhmceaoobihaa.HopsLaw
