/- It is proved, in plain Lean: a lookup's step, as the walk of the program shows it and as the reference computes it, is one value. -/
import Derived.Test.YtimihoepnkeioaaHopsLawA
import Derived.Test.YtimihoepnkeioaaPx6
import Derived.Test.YtimihoepnkeioaaPx7
import Derived.Test.YtimihoepnkeioaaPx3
import Derived.KernelRfl
namespace Go.Proofs.Ytimihoepnkeioaa.RouteLaw
open Go.RowKit Go.Proofs.Ytimihoepnkeioaa.P Go.Proofs.YtimihoepnkeioaaW.PrintWords Go.Proofs.YtimihoepnkeioaaW.PrintLast Go.Proofs.Ytimihoepnkeioaa.HopsLaw
set_option linter.unusedVariables false
set_option linter.unusedSimpArgs false

def uptoV (a x b : Int) : Bool := decide (a = b ∨ x = b ∨ (x ≠ a ∧ dist a x < dist a b))
theorem ring_upto (a x b : Int) : ring_Upto.f a x b = some (uptoV a x b) := by
  unfold ring_Upto.f uptoV
  rw [ring_btw]
  unfold btw
  split
  · simp_all
  · split
    · simp_all
    · simp_all
/-! Is a node too large? -/
theorem large29 (l : List S61) (hl : l.length < 4611686018427387904) : ∃ b, annuletlaw29_Large.f (l.length + 1) l = some b := by
  have h : ∀ n i, i + n = l.length → ∃ b, annuletlaw29_Large.l0 (n + 1) l (i : Int) = some b := by
    intro n
    induction n with
    | zero =>
      intro i hi
      rw [annuletlaw29_Large.l0, if_neg (by omega)]
      exact ⟨_, rfl⟩
    | succ n ih =>
      intro i hi
      have hlt : i < l.length := by omega
      rw [annuletlaw29_Large.l0, if_pos (by omega), if_pos (by omega), step64 hlt (by omega)]
      split
      · exact ⟨_, rfl⟩
      · split
        · exact ⟨_, rfl⟩
        · exact ih (i + 1) (by omega)
  unfold annuletlaw29_Large.f
  split
  · exact ⟨_, rfl⟩
  · exact h l.length 0 (by omega)
def Lg (k : Nat) (x : S34) : Option Bool := annuletlaw30_Large.f k x.f0.f0 x.f0.f1 x.f1 x.f2 x.f3 x.f4 x.f5 x.f6 x.f7 x.f8 x.f9 x.f10 x.f11 x.f12
theorem Lg_up (x : S34) {k : Nat} {b : Bool} (h : Lg k x = some b) (k' : Nat) (hk : k ≤ k') : Lg k' x = some b := up (g := fun k => Lg k x) (fun k => annuletlaw30_Large.mono _ _ _ _ _ _ _ _ _ _ _ _ _ _ k) h k' hk
theorem large30_l1 (x : S34) (hl : x.f9.length < 4611686018427387904) : ∀ n i, i + n = x.f9.length → ∃ b, annuletlaw30_Large.l1 (n + 1) (i : Int) x.f0.f0 x.f0.f1 x.f1 x.f2 x.f3 x.f4 x.f5 x.f6 x.f7 x.f8 x.f9 x.f10 x.f11 x.f12 = some b := by
  intro n
  induction n with
  | zero =>
    intro i hi
    rw [annuletlaw30_Large.l1, if_neg (by omega)]
    exact ⟨_, rfl⟩
  | succ n ih =>
    intro i hi
    have hlt : i < x.f9.length := by omega
    rw [annuletlaw30_Large.l1, if_pos (by omega), if_pos (by omega), step64 hlt (by omega)]
    split
    · exact ⟨_, rfl⟩
    · split
      · exact ⟨_, rfl⟩
      · exact ih (i + 1) (by omega)
theorem large30_l0 (x : S34) (hl : x.f8.length < 4611686018427387904) (hl9 : x.f9.length < 4611686018427387904) : ∀ n i, i + n = x.f8.length → ∃ b, annuletlaw30_Large.l0 (n + x.f9.length + 2) (i : Int) x.f0.f0 x.f0.f1 x.f1 x.f2 x.f3 x.f4 x.f5 x.f6 x.f7 x.f8 x.f9 x.f10 x.f11 x.f12 = some b := by
  intro n
  induction n with
  | zero =>
    intro i hi
    rw [annuletlaw30_Large.l0, if_neg (by omega)]
    have h := large30_l1 x hl9 x.f9.length 0 (by omega)
    rw [Nat.zero_add]
    exact h
  | succ n ih =>
    intro i hi
    have hlt : i < x.f8.length := by omega
    rw [show n + 1 + x.f9.length + 2 = (n + x.f9.length + 2) + 1 by omega, annuletlaw30_Large.l0, if_pos (by omega), if_pos (by omega), step64 hlt (by omega)]
    split
    · exact ⟨_, rfl⟩
    · split
      · exact ⟨_, rfl⟩
      · exact ih (i + 1) (by omega)
theorem large_j0 (x : S34) (hl : x.f8.length < 4611686018427387904) (hl9 : x.f9.length < 4611686018427387904) (b : Bool) : ∃ c, annuletlaw30_Large.j0 (x.f8.length + x.f9.length + 3) b x.f0.f0 x.f0.f1 x.f1 x.f2 x.f3 x.f4 x.f5 x.f6 x.f7 x.f8 x.f9 x.f10 x.f11 x.f12 = some c := by
  rw [annuletlaw30_Large.j0]
  split
  · exact ⟨_, rfl⟩
  · exact large30_l0 x hl hl9 x.f8.length 0 (by omega)
theorem j0_true (k : Nat) (x : S34) : annuletlaw30_Large.j0 (k + 1) true x.f0.f0 x.f0.f1 x.f1 x.f2 x.f3 x.f4 x.f5 x.f6 x.f7 x.f8 x.f9 x.f10 x.f11 x.f12 = some true := by
  rw [annuletlaw30_Large.j0, if_pos rfl]
/-- It is told, of any node; and of one that is not too large: how long its lists are. -/
theorem large_is (x : S34) (h7 : x.f6.length < 4611686018427387904) (hl : x.f8.length < 4611686018427387904) (hl9 : x.f9.length < 4611686018427387904) : ∃ k b, (∀ k', k ≤ k' → Lg k' x = some b) ∧ (b = false → x.f3.length ≤ 5 ∧ x.f4.length ≤ 40 ∧ x.f5.length ≤ 80) := by
  have key : ∃ k b, Lg k x = some b ∧ (b = false → x.f3.length ≤ 5 ∧ x.f4.length ≤ 40 ∧ x.f5.length ≤ 80) := by
    unfold Lg annuletlaw30_Large.f
    by_cases c1 : (x.f3.length : Int) > 5
    · exact ⟨1, true, by rw [if_pos c1]; exact j0_true 0 x, fun h => by cases h⟩
    · by_cases c2 : (x.f4.length : Int) > 40
      · exact ⟨1, true, by rw [if_neg c1, if_pos c2]; exact j0_true 0 x, fun h => by cases h⟩
      · by_cases c3 : (x.f5.length : Int) > 80
        · exact ⟨1, true, by rw [if_neg c1, if_neg c2, if_pos c3]; exact j0_true 0 x, fun h => by cases h⟩
        · by_cases c4 : (x.f7.length : Int) > 100
          · exact ⟨1, true, by rw [if_neg c1, if_neg c2, if_neg c3, if_pos c4]; exact j0_true 0 x, fun h => by cases h⟩
          · by_cases c5 : (x.f8.length : Int) > 20
            · exact ⟨1, true, by rw [if_neg c1, if_neg c2, if_neg c3, if_neg c4, if_pos c5]; exact j0_true 0 x, fun h => by cases h⟩
            · by_cases c6 : (x.f9.length : Int) > 40
              · exact ⟨1, true, by rw [if_neg c1, if_neg c2, if_neg c3, if_neg c4, if_neg c5, if_pos c6]; exact j0_true 0 x, fun h => by cases h⟩
              · obtain ⟨b, hb⟩ := large29 x.f6 h7
                obtain ⟨c, hc⟩ := large_j0 x hl hl9 b
                refine ⟨max (x.f6.length + 1) (x.f8.length + x.f9.length + 3), c, ?_, fun _ => ⟨by omega, by omega, by omega⟩⟩
                rw [if_neg c1, if_neg c2, if_neg c3, if_neg c4, if_neg c5, if_neg c6]
                rw [up (g := fun k => annuletlaw29_Large.f k x.f6) (fun k => annuletlaw29_Large.mono _ k) hb _ (Nat.le_max_left _ _), Option.bind_some]
                exact up (g := fun k => annuletlaw30_Large.j0 k b x.f0.f0 x.f0.f1 x.f1 x.f2 x.f3 x.f4 x.f5 x.f6 x.f7 x.f8 x.f9 x.f10 x.f11 x.f12) (fun k => (annuletlaw30_Large.mono_l k).1 _ _ _ _ _ _ _ _ _ _ _ _ _ _ _) hc _ (Nat.le_max_right _ _)
  obtain ⟨k, b, hk, hb⟩ := key
  exact ⟨k, b, fun k' h => Lg_up x hk k' h, hb⟩

/-! A lookup's step -/
def St (k : Nat) (x : S34) (key : Int) : Option (Int × Int × List S25 × Bool) := route_Step.f k x.f0.f0 x.f0.f1 x.f1 x.f2 x.f3 x.f4 x.f5 x.f6 x.f7 x.f8 x.f9 x.f10 x.f11 x.f12 key
def behindV (x : S34) (key : Int) : Bool := match x.f3 with | [] => false | p :: _ => if p.f1 ≤ 0 then uptoV p.f0.f0 key x.f0.f0 else false
def stepV (x : S34) (key : Int) : Int × Int × List S25 × Bool :=
  match firm x.f4 with
  | [] => (x.f0.f0, x.f0.f1, [], true)
  | p :: _ =>
    if key = x.f0.f0 then (x.f0.f0, x.f0.f1, [], true) else if uptoV x.f0.f0 key p.f0 = true then (p.f0, p.f1, [], true) else if behindV x key = true then (x.f0.f0, x.f0.f1, [], true)
    else match hopsV x.f0.f0 x.f0.f1 x.f4 x.f5 key 4 with
      | [] => (x.f0.f0, x.f0.f1, [], true)
      | h :: t => (0, 0, h :: t, false)
theorem behind_is (x : S34) (key : Int) : route_behind.f x.f0.f0 x.f0.f1 x.f1 x.f2 x.f3 x.f4 x.f5 x.f6 x.f7 x.f8 x.f9 x.f10 x.f11 x.f12 key = some (behindV x key) := by
  unfold route_behind.f behindV
  cases h : x.f3 with
  | nil => rfl
  | cons p t =>
    have hp : rd_T46 (p :: t) 0 = p := rfl
    rw [if_pos (by simp only [List.length_cons]; omega), if_pos (by simp only [List.length_cons]; omega), hp]
    by_cases c : p.f1 ≤ 0
    · rw [if_pos c, ring_upto, Option.bind_some]
      simp only [if_pos c]
    · rw [if_neg c]
      simp only [if_neg c]
theorem step_is (x : S34) (key : Int) (h4 : x.f4.length < 1099511627776) (h5 : x.f5.length < 1099511627776) (k : Nat) : St (k + 1) x key = some (stepV x key) := by
  unfold St route_Step.f stepV
  rw [peers_firm _ h4, Option.bind_some]
  cases hf : firm x.f4 with
  | nil =>
    rw [if_pos (show ((([] : List S25).length : Nat) : Int) = 0 from rfl), route_Step.j0, if_pos rfl]
  | cons p t =>
    rw [if_neg (by simp only [List.length_cons]; omega), route_Step.j0]
    by_cases c1 : key = x.f0.f0
    · rw [if_pos (beq_iff_eq.2 c1)]
      simp only [if_pos c1]
    · rw [if_neg (fun h => c1 (beq_iff_eq.1 h))]
      simp only [if_neg c1]
      have hp : rd_T25 (p :: t) 0 = p := rfl
      rw [if_pos (by simp only [List.length_cons]; omega), hp, ring_upto, Option.bind_some]
      by_cases c2 : uptoV x.f0.f0 key p.f0 = true
      · rw [if_pos c2]
        simp only [if_pos c2]
      · rw [if_neg c2]
        simp only [if_neg c2]
        rw [behind_is, Option.bind_some]
        by_cases c3 : behindV x key = true
        · rw [if_pos c3]
          simp only [if_pos c3]
        · rw [if_neg c3]
          simp only [if_neg c3]
          rw [fings_hops _ _ _ _ _ _ h4 h5, Option.bind_some]
          cases hh : hopsV x.f0.f0 x.f0.f1 x.f4 x.f5 key 4 with
          | nil => rfl
          | cons a b => rw [if_pos (by simp only [List.length_cons]; omega)]
def Mn (k : Nat) (x : S34) (key : Int) : Option Bool := route_Mine.f k x.f0.f0 x.f0.f1 x.f1 x.f2 x.f3 x.f4 x.f5 x.f6 x.f7 x.f8 x.f9 x.f10 x.f11 x.f12 key
def mineV (x : S34) (key : Int) : Bool := if (stepV x key).2.2.2 = true then (stepV x key).1 == x.f0.f0 && (stepV x key).2.1 == x.f0.f1 else false
theorem mine_is (x : S34) (key : Int) (h4 : x.f4.length < 1099511627776) (h5 : x.f5.length < 1099511627776) (k : Nat) : Mn (k + 1) x key = some (mineV x key) := by
  unfold Mn route_Mine.f mineV
  have h := step_is x key h4 h5 k
  unfold St at h
  rw [h, Option.bind_some]
  split <;> rfl
/-- Who lies nearer, told by a step: none of them is the node, each lies on the way, and there are at most four; none is told just if the owner is. -/
theorem step_near (x : S34) (key : Int) : (stepV x key).2.2.2 = (((stepV x key).2.2.1.length : Int) == 0) ∧ (stepV x key).2.2.1.length ≤ 4 ∧ ∀ q ∈ (stepV x key).2.2.1, q.f1 ≠ x.f0.f1 ∧ btw x.f0.f0 q.f0 key = true := by
  have h0 : ∀ a b : Int, ((a, b, ([] : List S25), true) : Int × Int × List S25 × Bool).2.2.2 = ((((a, b, ([] : List S25), true) : Int × Int × List S25 × Bool).2.2.1.length : Int) == 0) ∧ ((a, b, ([] : List S25), true) : Int × Int × List S25 × Bool).2.2.1.length ≤ 4 ∧ ∀ q ∈ ((a, b, ([] : List S25), true) : Int × Int × List S25 × Bool).2.2.1, q.f1 ≠ x.f0.f1 ∧ btw x.f0.f0 q.f0 key = true :=
    fun a b => ⟨rfl, Nat.zero_le _, fun q hq => by simp at hq⟩
  unfold stepV
  cases hf : firm x.f4 with
  | nil => exact h0 x.f0.f0 x.f0.f1
  | cons p t =>
    by_cases c1 : key = x.f0.f0
    · simp only [if_pos c1]; exact h0 x.f0.f0 x.f0.f1
    · simp only [if_neg c1]
      by_cases c2 : uptoV x.f0.f0 key p.f0 = true
      · simp only [if_pos c2]; exact h0 p.f0 p.f1
      · simp only [if_neg c2]
        by_cases c3 : behindV x key = true
        · simp only [if_pos c3]; exact h0 x.f0.f0 x.f0.f1
        · simp only [if_neg c3]
          cases hh : hopsV x.f0.f0 x.f0.f1 x.f4 x.f5 key 4 with
          | nil => exact h0 x.f0.f0 x.f0.f1
          | cons a b =>
            refine ⟨?_, ?_, ?_⟩
            · symm
              rw [beq_eq_false_iff_ne]
              simp only [List.length_cons]
              omega
            · have := hops_len x.f0.f0 x.f0.f1 x.f4 x.f5 key 4 (by omega)
              rw [hh] at this
              exact this
            · intro q hq
              have hm : q ∈ hopsV x.f0.f0 x.f0.f1 x.f4 x.f5 key 4 := by rw [hh]; exact hq
              exact (hops_mem hm).2

/-! The example -/
theorem hopsV_eq (me0 me1 : Int) (l1 : List S46) (l2 : List S63) (key most : Int) : hopsV me0 me1 l1 l2 key most = cut most ((hops_out (hops_all l1 l2) me0 me1 key (hops_all l1 l2).length).foldl (fun o p => ins (lt me0) p o) []) := by
  unfold hopsV
  rw [fold_sorted me0 _ (out_apart _ _ _ _)]
def nA : S34 := ⟨⟨0, 1⟩, 0, false, [], [⟨⟨4, 2⟩, 0⟩], [], [], [], [], [], 0, 0, 0⟩
def nB : S34 := ⟨⟨4, 2⟩, 0, false, [], [], [], [], [], [], [], 0, 0, 0⟩
theorem nA3 : stepV nA 3 = (4, 2, [], true) := by kernel_rfl
theorem nA0 : stepV nA 0 = (0, 1, [], true) := by kernel_rfl
theorem nB9 : stepV nB 9 = (4, 2, [], true) := by kernel_rfl
theorem nAh : hopsV 0 1 [⟨⟨4, 2⟩, 0⟩] [] 5 4 = [⟨4, 2⟩] := by
  rw [hopsV_eq]
  kernel_rfl
theorem nA5 : stepV nA 5 = (0, 0, [⟨4, 2⟩], false) := by
  have h : stepV nA 5 = match hopsV 0 1 [⟨⟨4, 2⟩, 0⟩] [] 5 4 with | [] => (0, 1, [], true) | h :: t => (0, 0, h :: t, false) := by kernel_rfl
  rw [h, nAh]
theorem awake_is (k : Nat) : annuletlaw32_awake.f (k + 1) = some true := by
  have e1 := step_is nA 3 (by decide) (by decide) k
  have e2 := step_is nA 5 (by decide) (by decide) k
  have e3 := step_is nB 9 (by decide) (by decide) k
  have e4 := mine_is nA 0 (by decide) (by decide) k
  have e5 := mine_is nA 3 (by decide) (by decide) k
  unfold mineV at e4 e5
  rw [nA3] at e1 e5
  rw [nA5] at e2
  rw [nB9] at e3
  rw [nA0] at e4
  unfold St at e1 e2 e3
  unfold Mn at e4 e5
  unfold annuletlaw32_awake.f
  simp only [nA, nB] at e1 e2 e3 e4 e5
  rw [Option.bind_some, e1, Option.bind_some, e2, Option.bind_some, e3, Option.bind_some, e4, e5]
  rfl
#print axioms large_is
#print axioms step_is
#print axioms step_near
#print axioms awake_is
end Go.Proofs.Ytimihoepnkeioaa.RouteLaw
