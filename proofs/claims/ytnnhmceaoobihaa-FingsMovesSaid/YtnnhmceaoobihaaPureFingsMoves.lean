/- It is proved that, for any fingers, any bit and any peer, Get, Set and Drop of the program's fings answer as the reference's do. No condition. -/
import Derived.Test.YtnnhmceaoobihaaPSayFingsMoves
import Derived.Test.YtnnhmceaoobihaaFingsLaw
namespace Go.Proofs.Ytnnhmceaoobihaa.Pure
open Go.RowKit Go.Proofs.Ytnnhmceaoobihaa.P Go.Proofs.YtnnhmceaoobihaaW.PrintWords Go.Proofs.YtnnhmceaoobihaaW.PrintLast Go.Proofs.Ytnnhmceaoobihaa.HopsLaw Go.Proofs.Ytnnhmceaoobihaa.FingsLaw Go.Proofs.YtnnhmceaoobihaaW.PrintIdx
set_option linter.unusedVariables false
set_option linter.unusedSimpArgs false

theorem st {i : Nat} (h : i < 200) : wrap64 ((i : Int) + 1) = ((i + 1 : Nat) : Int) := step64 h (by omega)
theorem dropC {α : Type} {l : List α} {i : Nat} (h : i < l.length) : l.drop i = l[i] :: l.drop (i + 1) := List.drop_eq_getElem_cons h
def G (b : Int) : List S45 → Int × Int × Bool
  | [] => (0, 0, false)
  | x :: r => if x.f0 = b then (x.f1.f0, x.f1.f1, true) else G b r
theorem get_loop (l : List S45) (b : Int) (hl : l.length ≤ 100) : ∀ d i : Nat, i + d = l.length → ∃ k, fings_Get.l0 k b l (l.length : Int) (i : Int) = some (G b (l.drop i))
  | 0, i, hi => ⟨1, by
    simp only [fings_Get.l0]
    rw [if_neg (by omega), List.drop_of_length_le (by omega)]
    rfl⟩
  | d + 1, i, hi => by
    have hil : i < l.length := by omega
    obtain ⟨k, hk⟩ := get_loop l b hl d (i + 1) (by omega)
    refine ⟨k + 1, ?_⟩
    simp only [fings_Get.l0]
    rw [if_pos (by omega), if_pos (by omega), if_pos (by omega), rdF hil, dropC hil]
    by_cases h : l[i].f0 = b
    · rw [if_pos h]; simp only [G]; rw [if_pos h]
    · rw [if_neg h, st (by omega)]; simp only [G]; rw [if_neg h]; exact hk
theorem ref_get_loop (l : List S45) (b : Int) (hl : l.length ≤ 100) : ∀ d i : Nat, i + d = l.length → ∃ k, annuletref28_Get.l0 k l b (i : Int) = some (G b (l.drop i))
  | 0, i, hi => ⟨1, by
    simp only [annuletref28_Get.l0]
    rw [if_neg (by omega), List.drop_of_length_le (by omega)]
    rfl⟩
  | d + 1, i, hi => by
    have hil : i < l.length := by omega
    obtain ⟨k, hk⟩ := ref_get_loop l b hl d (i + 1) (by omega)
    refine ⟨k + 1, ?_⟩
    simp only [annuletref28_Get.l0]
    rw [if_pos (by omega), if_pos (by omega), rdF hil, dropC hil]
    by_cases h : l[i].f0 = b
    · rw [if_pos h]; simp only [G]; rw [if_pos h]
    · rw [if_neg h, st (by omega)]; simp only [G]; rw [if_neg h]; exact hk
def T (b p q : Int) : Bool → List S45 → List S45
  | put, [] => if put = true then [] else [⟨b, ⟨p, q⟩⟩]
  | put, x :: r => if put = true then x :: T b p q put r else if x.f0 = b then ⟨x.f0, ⟨p, q⟩⟩ :: T b p q true r else x :: T b p q false r
def N (b p q : Int) : Bool → List S45 → List S45
  | put, [] => if put = true then [] else [⟨b, ⟨p, q⟩⟩]
  | put, x :: r => if put = true then x :: N b p q put r else if x.f0 > b then ⟨b, ⟨p, q⟩⟩ :: x :: N b p q true r else x :: N b p q false r
theorem T_true (b p q : Int) : ∀ l, T b p q true l = l
  | [] => rfl
  | x :: r => by simp only [T]; rw [if_pos (by trivial), T_true b p q r]
theorem N_true (b p q : Int) : ∀ l, N b p q true l = l
  | [] => rfl
  | x :: r => by simp only [N]; rw [if_pos (by trivial), N_true b p q r]
theorem set_loop (l : List S45) (b p q : Int) (there : Bool) (hl : l.length ≤ 100) : ∀ (d i : Nat) (o : List S45) (put : Bool), i + d = l.length → (o.length ≤ i + 1 ∧ (put = false → o.length ≤ i)) → ∃ k, annuletref28_Set.l0 k l b there o put (i : Int) p q = some (o ++ if there = true then T b p q put (l.drop i) else N b p q put (l.drop i))
  | 0, i, o, put, hi, ho => ⟨1, by
    simp only [annuletref28_Set.l0]
    rw [if_neg (by omega), List.drop_of_length_le (by omega)]
    cases put
    · rw [if_neg (by simp), if_pos (by omega)]
      cases there <;> rfl
    · rw [if_pos (by trivial)]
      cases there <;> simp [T, N]⟩
  | d + 1, i, o, put, hi, ho => by
    have hil : i < l.length := by omega
    have hx : (⟨l[i].f0, (⟨l[i].f1.f0, l[i].f1.f1⟩ : S26)⟩ : S45) = l[i] := rfl
    rw [dropC hil]
    cases there with
    | true =>
      simp only [if_true]
      cases put with
      | true =>
        obtain ⟨k, hk⟩ := set_loop l b p q true hl d (i + 1) (o ++ [l[i]]) true (by omega) (by rw [List.length_append, List.length_singleton]; exact ⟨by omega, fun h => by first | (cases h; done) | (have := ho.2 rfl; omega)⟩)
        refine ⟨k + 2, ?_⟩
        simp only [annuletref28_Set.l0, annuletref28_Set.j2]
        rw [if_pos (by omega), if_pos (by omega), if_pos (by trivial), if_pos (by trivial), if_neg (by simp), if_pos (by trivial), if_pos (by omega), rdF hil, st (by omega), hx, hk]
        simp only [T, if_true, List.append_assoc, List.singleton_append]
      | false =>
        by_cases h : l[i].f0 = b
        · obtain ⟨k, hk⟩ := set_loop l b p q true hl d (i + 1) (o ++ [⟨l[i].f0, ⟨p, q⟩⟩]) true (by omega) (by rw [List.length_append, List.length_singleton]; exact ⟨by omega, fun h => by first | (cases h; done) | (have := ho.2 rfl; omega)⟩)
          refine ⟨k + 2, ?_⟩
          simp only [annuletref28_Set.l0, annuletref28_Set.j2]
          rw [if_pos (by omega), if_pos (by omega), if_pos (by trivial), if_neg (by simp), rdF hil, if_pos (by rw [h]; exact beq_self_eq_true b), if_pos (by trivial), if_pos (by omega), st (by omega), hk]
          simp only [T, h, if_true, if_false, Bool.false_eq_true, List.append_assoc, List.singleton_append]
        · obtain ⟨k, hk⟩ := set_loop l b p q true hl d (i + 1) (o ++ [l[i]]) false (by omega) (by rw [List.length_append, List.length_singleton]; exact ⟨by omega, fun h => by first | (cases h; done) | (have := ho.2 rfl; omega)⟩)
          refine ⟨k + 2, ?_⟩
          simp only [annuletref28_Set.l0, annuletref28_Set.j2]
          rw [if_pos (by omega), if_pos (by omega), if_pos (by trivial), if_neg (by simp), rdF hil, if_neg (by simpa using h), if_pos (by trivial), if_pos (by omega), st (by omega), hx, hk]
          simp only [T, h, if_true, if_false, Bool.false_eq_true, List.append_assoc, List.singleton_append]
    | false =>
      simp only [Bool.false_eq_true, if_false]
      cases put with
      | true =>
        obtain ⟨k, hk⟩ := set_loop l b p q false hl d (i + 1) (o ++ [l[i]]) true (by omega) (by rw [List.length_append, List.length_singleton]; exact ⟨by omega, fun h => by first | (cases h; done) | (have := ho.2 rfl; omega)⟩)
        refine ⟨k + 2, ?_⟩
        simp only [annuletref28_Set.l0, annuletref28_Set.j2]
        rw [if_pos (by omega), if_pos (by omega), if_neg (by simp), if_neg (by simp), if_neg (by simp), if_pos (by trivial), if_pos (by omega), rdF hil, st (by omega), hx, hk]
        simp only [N, if_true, if_false, Bool.false_eq_true, List.append_assoc, List.singleton_append]
      | false =>
        by_cases h : l[i].f0 > b
        · obtain ⟨k, hk⟩ := set_loop l b p q false hl d (i + 1) (o ++ [⟨b, ⟨p, q⟩⟩] ++ [l[i]]) true (by omega) (by rw [List.length_append, List.length_append, List.length_singleton, List.length_singleton]; exact ⟨by have := ho.2 rfl; omega, fun h => by cases h⟩)
          refine ⟨k + 2, ?_⟩
          simp only [annuletref28_Set.l0, annuletref28_Set.j2]
          rw [if_pos (by omega), if_pos (by omega), if_neg (by simp), if_neg (by simp), if_neg (by simp), if_neg (by simp), rdF hil, if_pos h, if_pos (by omega)]
          simp only [Option.bind_some]
          rw [if_pos (by rw [List.length_append, List.length_singleton]; omega), st (by omega), hx, hk]
          simp only [N, h, if_true, if_false, Bool.false_eq_true, List.append_assoc, List.singleton_append]
          rfl
        · obtain ⟨k, hk⟩ := set_loop l b p q false hl d (i + 1) (o ++ [l[i]]) false (by omega) (by rw [List.length_append, List.length_singleton]; exact ⟨by omega, fun h => by first | (cases h; done) | (have := ho.2 rfl; omega)⟩)
          refine ⟨k + 2, ?_⟩
          simp only [annuletref28_Set.l0, annuletref28_Set.j2]
          rw [if_pos (by omega), if_pos (by omega), if_neg (by simp), if_neg (by simp), if_neg (by simp), if_neg (by simp), rdF hil, if_neg h, if_pos (by omega), st (by omega), hx, hk]
          simp only [N, h, if_true, if_false, Bool.false_eq_true, List.append_assoc, List.singleton_append]
theorem idx_nil {α : Type} (f : α → Bool) : Go.Proofs.YtnnhmceaoobihaaW.PrintIdx.firstIdx f [] = -1 := rfl
theorem idx_cons {α : Type} (f : α → Bool) (x : α) (r : List α) : Go.Proofs.YtnnhmceaoobihaaW.PrintIdx.firstIdx f (x :: r) = if f x = true then 0 else if Go.Proofs.YtnnhmceaoobihaaW.PrintIdx.firstIdx f r < 0 then -1 else Go.Proofs.YtnnhmceaoobihaaW.PrintIdx.firstIdx f r + 1 := by
  unfold Go.Proofs.YtnnhmceaoobihaaW.PrintIdx.firstIdx
  rw [List.findIdx?_cons]
  by_cases h : f x = true
  · rw [if_pos h, if_pos h]; rfl
  · rw [if_neg h, if_neg h]
    cases r.findIdx? f with
    | none => simp
    | some i => simp; omega
theorem idx_ge {α : Type} (f : α → Bool) (l : List α) : -1 ≤ Go.Proofs.YtnnhmceaoobihaaW.PrintIdx.firstIdx f l := by
  rcases Go.Proofs.YtnnhmceaoobihaaW.PrintIdx.firstIdx_range f l with h | h <;> omega
theorem there_is (b : Int) : ∀ l : List S45, (G b l).2.2 = decide (0 ≤ Go.Proofs.YtnnhmceaoobihaaW.PrintIdx.firstIdx (fun x => x.f0 == b) l)
  | [] => rfl
  | x :: r => by
    simp only [G]
    rw [idx_cons]
    by_cases h : x.f0 = b
    · rw [if_pos h, if_pos (by simpa using h)]; rfl
    · rw [if_neg h, if_neg (by simpa using h), there_is b r]
      have := idx_ge (fun x : S45 => x.f0 == b) r
      congr 1
      split <;> (apply propext; omega)
theorem T_is (b p q : Int) : ∀ l : List S45, 0 ≤ Go.Proofs.YtnnhmceaoobihaaW.PrintIdx.firstIdx (fun x => x.f0 == b) l → T b p q false l = l.set (Go.Proofs.YtnnhmceaoobihaaW.PrintIdx.firstIdx (fun x => x.f0 == b) l).toNat ⟨b, ⟨p, q⟩⟩
  | [], h => by rw [idx_nil] at h; omega
  | x :: r, h => by
    simp only [T, Bool.false_eq_true, if_false]
    by_cases hx : x.f0 = b
    · have e : Go.Proofs.YtnnhmceaoobihaaW.PrintIdx.firstIdx (fun x : S45 => x.f0 == b) (x :: r) = 0 := by rw [idx_cons, if_pos (by simpa using hx)]
      rw [e, if_pos hx, T_true, hx]; rfl
    · by_cases hn : Go.Proofs.YtnnhmceaoobihaaW.PrintIdx.firstIdx (fun x : S45 => x.f0 == b) r < 0
      · have e : Go.Proofs.YtnnhmceaoobihaaW.PrintIdx.firstIdx (fun x : S45 => x.f0 == b) (x :: r) = -1 := by rw [idx_cons, if_neg (by simpa using hx), if_pos hn]
        rw [e] at h; omega
      · have e : Go.Proofs.YtnnhmceaoobihaaW.PrintIdx.firstIdx (fun x : S45 => x.f0 == b) (x :: r) = Go.Proofs.YtnnhmceaoobihaaW.PrintIdx.firstIdx (fun x : S45 => x.f0 == b) r + 1 := by rw [idx_cons, if_neg (by simpa using hx), if_neg hn]
        rw [e, if_neg hx, T_is b p q r (by omega)]
        obtain ⟨j, hj⟩ : ∃ j : Nat, Go.Proofs.YtnnhmceaoobihaaW.PrintIdx.firstIdx (fun x : S45 => x.f0 == b) r = j := ⟨_, (Int.toNat_of_nonneg (by omega)).symm⟩
        rw [hj, show ((j : Int) + 1).toNat = j + 1 by omega, Int.toNat_natCast, List.set_cons_succ]
theorem N_is (b p q : Int) : ∀ l : List S45, N b p q false l = if 0 ≤ Go.Proofs.YtnnhmceaoobihaaW.PrintIdx.firstIdx (fun x => decide (x.f0 > b)) l then l.take (Go.Proofs.YtnnhmceaoobihaaW.PrintIdx.firstIdx (fun x => decide (x.f0 > b)) l).toNat ++ ⟨b, ⟨p, q⟩⟩ :: l.drop (Go.Proofs.YtnnhmceaoobihaaW.PrintIdx.firstIdx (fun x => decide (x.f0 > b)) l).toNat else l ++ [⟨b, ⟨p, q⟩⟩]
  | [] => rfl
  | x :: r => by
    simp only [N, Bool.false_eq_true, if_false]
    by_cases hx : x.f0 > b
    · have e : Go.Proofs.YtnnhmceaoobihaaW.PrintIdx.firstIdx (fun x : S45 => decide (x.f0 > b)) (x :: r) = 0 := by rw [idx_cons, if_pos (decide_eq_true hx)]
      rw [e, if_pos hx, if_pos (by omega), N_true]; rfl
    · rw [if_neg hx, N_is b p q r]
      by_cases hn : Go.Proofs.YtnnhmceaoobihaaW.PrintIdx.firstIdx (fun x : S45 => decide (x.f0 > b)) r < 0
      · have e : Go.Proofs.YtnnhmceaoobihaaW.PrintIdx.firstIdx (fun x : S45 => decide (x.f0 > b)) (x :: r) = -1 := by rw [idx_cons, if_neg (by simpa using hx), if_pos hn]
        rw [e, if_neg (by omega), if_neg (by omega)]; rfl
      · have e : Go.Proofs.YtnnhmceaoobihaaW.PrintIdx.firstIdx (fun x : S45 => decide (x.f0 > b)) (x :: r) = Go.Proofs.YtnnhmceaoobihaaW.PrintIdx.firstIdx (fun x : S45 => decide (x.f0 > b)) r + 1 := by rw [idx_cons, if_neg (by simpa using hx), if_neg hn]
        rw [e, if_pos (by omega), if_pos (by omega)]
        obtain ⟨j, hj⟩ : ∃ j : Nat, Go.Proofs.YtnnhmceaoobihaaW.PrintIdx.firstIdx (fun x : S45 => decide (x.f0 > b)) r = j := ⟨_, (Int.toNat_of_nonneg (by omega)).symm⟩
        rw [hj, show ((j : Int) + 1).toNat = j + 1 by omega, Int.toNat_natCast, List.take_succ_cons, List.drop_succ_cons]; rfl
theorem drop_loop (l : List S45) (a : Int) (hl : l.length ≤ 100) : ∀ (d i : Nat) (o : List S45), i + d = l.length → o.length ≤ i → ∃ k, annuletref28_Drop.l0 k l a o (i : Int) = some (o ++ (l.drop i).filter fun x => x.f1.f1 != a)
  | 0, i, o, hi, ho => ⟨1, by
    simp only [annuletref28_Drop.l0]
    rw [if_neg (by omega), List.drop_of_length_le (by omega)]
    simp⟩
  | d + 1, i, o, hi, ho => by
    have hil : i < l.length := by omega
    have hx : (⟨l[i].f0, (⟨l[i].f1.f0, l[i].f1.f1⟩ : S26)⟩ : S45) = l[i] := rfl
    rw [dropC hil]
    by_cases h : l[i].f1.f1 = a
    · obtain ⟨k, hk⟩ := drop_loop l a hl d (i + 1) o (by omega) (by omega)
      refine ⟨k + 1, ?_⟩
      simp only [annuletref28_Drop.l0]
      rw [if_pos (by omega), if_pos (by omega), rdF hil, if_pos h, st (by omega), hk, List.filter_cons_of_neg (by simp [h])]
    · obtain ⟨k, hk⟩ := drop_loop l a hl d (i + 1) (o ++ [l[i]]) (by omega) (by rw [List.length_append, List.length_singleton]; omega)
      refine ⟨k + 1, ?_⟩
      simp only [annuletref28_Drop.l0]
      rw [if_pos (by omega), if_pos (by omega), rdF hil, if_neg h, if_pos (by omega), st (by omega), hx, hk, List.filter_cons_of_pos (by simp [h]), List.append_assoc, List.singleton_append]
theorem same_loop (s : List S45) (hs : s.length ≤ 150) : ∀ d i : Nat, i + d = s.length → ∃ k, annuletref28_Same.l0 k s s (i : Int) = some true
  | 0, i, hi => ⟨1, by simp only [annuletref28_Same.l0]; rw [if_neg (by omega)]⟩
  | d + 1, i, hi => by
    obtain ⟨k, hk⟩ := same_loop s hs d (i + 1) (by omega)
    refine ⟨k + 1, ?_⟩
    simp only [annuletref28_Same.l0]
    rw [if_pos (by omega), if_pos (by omega), if_pos (by omega), if_neg (by simp), st (by omega)]
    exact hk
theorem same_is (s : List S45) (hs : s.length ≤ 150) : ∃ k, annuletref28_Same.f k s s = some true := by
  obtain ⟨k, hk⟩ := same_loop s hs s.length 0 (by omega)
  refine ⟨k, ?_⟩
  unfold annuletref28_Same.f
  rw [if_pos rfl]
  exact hk
theorem set_is (l : List S45) (b p q : Int) (hl : l.length ≤ 100) : ∃ k s, fings_Set.f l b p q = some s ∧ s.length ≤ 101 ∧ annuletref28_Set.f k l b p q = some s := by
  unfold fings_Set.f annuletref28_Set.f
  rw [if_pos (by omega)]
  by_cases h0 : b < 0
  · refine ⟨1, l, ?_, by omega, ?_⟩
    · rw [if_pos (Or.inl h0)]
    · rw [if_pos h0]
      simp only [annuletref28_Set.j0]
      rw [if_pos (by trivial)]
  · by_cases h1 : b > 63
    · refine ⟨1, l, ?_, by omega, ?_⟩
      · rw [if_pos (Or.inr h1)]
      · rw [if_neg h0]
        simp only [annuletref28_Set.j0]
        rw [if_pos (decide_eq_true h1)]
    · obtain ⟨k1, e1⟩ := ref_get_loop l b hl l.length 0 (by omega)
      obtain ⟨k2, e2⟩ := set_loop l b p q (G b l).2.2 hl l.length 0 [] false (by omega) (by simp)
      rw [List.drop_zero, List.nil_append] at e2
      rw [List.drop_zero] at e1
      have hu : ∀ k, annuletref28_Set.l0 k l b (G b l).2.2 [] false 0 p q = some (if (G b l).2.2 = true then T b p q false l else N b p q false l) → annuletref28_Get.f k l b = some (G b l) → annuletref28_Set.j0 (k + 1) l b false p q = some (if (G b l).2.2 = true then T b p q false l else N b p q false l) := by
        intro k h1 h2
        simp only [annuletref28_Set.j0]
        rw [if_neg (by simp), h2]
        simp only [Option.bind_some]
        exact h1
      have g1 := up (g := fun k => annuletref28_Get.f k l b) (fun k => annuletref28_Get.mono _ _ k) (show annuletref28_Get.f k1 l b = some (G b l) from e1) (k1 + k2) (by omega)
      have g2 := up (g := fun k => annuletref28_Set.l0 k l b (G b l).2.2 [] false 0 p q) (fun k => (annuletref28_Set.mono_l k).2.1 _ _ _ _ _ _ _ _) e2 (k1 + k2) (by omega)
      refine ⟨k1 + k2 + 1, _, rfl, ?_, ?_⟩
      · rw [if_neg (by omega)]
        split
        · rw [List.length_set]; omega
        · split
          · rename_i hj
            have := Go.Proofs.YtnnhmceaoobihaaW.PrintIdx.firstIdx_range (fun x : S45 => decide (x.f0 > b)) l
            rw [List.length_append, List.length_cons, List.length_take, List.length_drop]; omega
          · rw [List.length_append, List.length_singleton]; omega
      · rw [if_neg h0, decide_eq_false h1, hu _ g2 g1, if_neg (by omega : ¬ (b < 0 ∨ b > 63)), there_is]
        by_cases ht : 0 ≤ Go.Proofs.YtnnhmceaoobihaaW.PrintIdx.firstIdx (fun x : S45 => x.f0 == b) l
        · rw [if_pos (decide_eq_true ht), if_pos ht, T_is b p q l ht]
        · rw [if_neg (by simpa using ht), if_neg ht, N_is b p q l]

theorem FingsMoves : annuletlaw28_FingsMoves.Pure := by
  intro l0 a1 x2 h0 h1 h2
  by_cases hl : (l0.length : Int) > 100
  · refine ⟨10, ?_⟩
    unfold annuletlaw28_FingsMoves.f
    rw [if_pos hl, awake_k 10 (by omega)]
    rfl
  · have hn : l0.length ≤ 100 := by omega
    obtain ⟨k1, e1⟩ := get_loop l0 a1 hn l0.length 0 (by omega)
    obtain ⟨k2, e2⟩ := ref_get_loop l0 a1 hn l0.length 0 (by omega)
    obtain ⟨k3, s, e3, hs, e4⟩ := set_is l0 a1 x2.f0 x2.f1 hn
    obtain ⟨k5, e5⟩ := same_is s (by omega)
    have e6 : fings_Drop.f l0 x2.f1 = some (l0.filter fun x => x.f1.f1 != x2.f1) := by unfold fings_Drop.f; rw [if_pos (by omega)]
    obtain ⟨k7, e7⟩ := drop_loop l0 x2.f1 hn l0.length 0 [] (by omega) (by simp)
    obtain ⟨k8, e8⟩ := same_is (l0.filter fun x => x.f1.f1 != x2.f1) (Nat.le_trans (List.length_filter_le _ _) (by omega))
    rw [List.drop_zero] at e1 e2 e7
    rw [List.nil_append] at e7
    refine ⟨k1 + k2 + k3 + k5 + k7 + k8 + 10, ?_⟩
    unfold annuletlaw28_FingsMoves.f
    rw [if_neg hl, up (g := fun k => fings_Get.f k l0 a1) (fun k => fings_Get.mono _ _ k) (show fings_Get.f k1 l0 a1 = _ from e1) _ (by omega)]
    simp only [Option.bind_some]
    rw [up (g := fun k => annuletref28_Get.f k l0 a1) (fun k => annuletref28_Get.mono _ _ k) (show annuletref28_Get.f k2 l0 a1 = _ from e2) _ (by omega)]
    simp only [Option.bind_some]
    rw [e3]
    simp only [Option.bind_some]
    rw [up (g := fun k => annuletref28_Set.f k l0 a1 x2.f0 x2.f1) (fun k => annuletref28_Set.mono _ _ _ _ k) e4 _ (by omega)]
    simp only [Option.bind_some]
    rw [up (g := fun k => annuletref28_Same.f k s s) (fun k => annuletref28_Same.mono _ _ k) e5 _ (by omega)]
    simp only [Option.bind_some]
    rw [if_pos (by trivial), e6]
    simp only [Option.bind_some]
    rw [up (g := fun k => annuletref28_Drop.f k l0 x2.f1) (fun k => annuletref28_Drop.mono _ _ k) (show annuletref28_Drop.f k7 l0 x2.f1 = _ from e7) _ (by omega)]
    simp only [Option.bind_some]
    rw [up (g := fun k => annuletref28_Same.f k (l0.filter fun x => x.f1.f1 != x2.f1) (l0.filter fun x => x.f1.f1 != x2.f1)) (fun k => annuletref28_Same.mono _ _ k) e8 _ (by omega)]
    simp only [Option.bind_some]
    rw [if_pos (by trivial), if_pos (by simp), if_pos (by simp), awake_k _ (by omega)]
    rfl

end Go.Proofs.Ytnnhmceaoobihaa.Pure
