/- It is proved that, for all entries, fingers and keys, each of those who lie nearer lies on the way up to the key, each nearer to it than the next one, and nobody is there twice. No condition. -/
import Derived.Test.YtnnhmceaoobihaaPSayFingsNear
import Derived.Test.YtnnhmceaoobihaaFingsLaw
namespace Go.Proofs.Ytnnhmceaoobihaa.Pure
open Go.RowKit Go.Proofs.Ytnnhmceaoobihaa.P Go.Proofs.YtnnhmceaoobihaaW.PrintWords Go.Proofs.YtnnhmceaoobihaaW.PrintLast Go.Proofs.Ytnnhmceaoobihaa.HopsLaw Go.Proofs.Ytnnhmceaoobihaa.FingsLaw
set_option linter.unusedVariables false
set_option linter.unusedSimpArgs false

theorem hopsV_pairwise (me0 me1 : Int) (l1 : List S43) (l2 : List S45) (key most : Int) : (hopsV me0 me1 l1 l2 key most).Pairwise (fun a b => lt me0 a b = true ∧ a.f1 ≠ b.f1) := by
  rw [hopsV_eq]
  have ha := out_apart (hops_all l1 l2) me0 me1 key
  generalize hops_out (hops_all l1 l2) me0 me1 key (hops_all l1 l2).length = X at ha
  have hf := fold_ins (lt_trans me0) X [] List.Pairwise.nil (fun _ _ q hq => by simp at hq) (ha.imp (fun h => lt_either me0 _ _ h))
  rw [List.nil_append] at hf
  have hne := (hf.2.pairwise_iff (fun {a b : S26} (h : a.f1 ≠ b.f1) => Ne.symm h)).2 ha
  have hb : (X.foldl (fun o p => ins (lt me0) p o) []).Pairwise (fun a b => lt me0 a b = true ∧ a.f1 ≠ b.f1) := List.Pairwise.and hf.1 hne
  unfold cut
  split
  · exact List.Pairwise.nil
  · exact hb.sublist (List.take_sublist _ _)
theorem l0_up {k : Nat} {key me0 me1 : Int} {V : List S26} {i : Int} (h : annuletlaw28_FingsNear.l0 k key V i me0 me1 = some true) (k' : Nat) (hk : k ≤ k') : annuletlaw28_FingsNear.l0 k' key V i me0 me1 = some true :=
  up (g := fun k => annuletlaw28_FingsNear.l0 k key V i me0 me1) (fun k => (annuletlaw28_FingsNear.mono_l k).2.1 _ _ _ _ _) h k' hk
theorem inner (key me0 me1 : Int) (V : List S26) (hl : V.length < 4398046511104) (i : Nat) (hi : i < V.length) (hne : ∀ j (hj : j < V.length), j < i → V[j].f1 ≠ V[i].f1) (K : Nat)
    (h : annuletlaw28_FingsNear.l0 K key V ((i + 1 : Nat) : Int) me0 me1 = some true) : ∀ n j, j + n = i → annuletlaw28_FingsNear.l1 (K + n + 1) key V (i : Int) (j : Int) me0 me1 = some true := by
  intro n
  induction n with
  | zero =>
    intro j hj
    rw [annuletlaw28_FingsNear.l1, if_neg (by omega), step64 hi (by omega)]
    exact h
  | succ n ih =>
    intro j hj
    have hjl : j < V.length := by omega
    rw [annuletlaw28_FingsNear.l1, if_pos (by omega), if_pos (by omega), if_pos (by omega), if_pos (by omega), if_pos (by omega), rdP hjl, rdP hi, if_neg (hne j hjl (by omega)), step64 hjl (by omega)]
    exact ih (j + 1) (by omega)
theorem nearer {m key a b : Int} (hm : U m) (hk : U key) (ha : U a) (hb : U b) (b1 : btw m a key = true) (b2 : btw m b key = true) (h : dist m b ≤ dist m a) : ¬ dist a key > dist b key := by
  unfold btw at b1 b2
  rw [decide_eq_true_eq] at b1 b2
  unfold dist at *
  unfold U at *
  omega
theorem outer (key me0 me1 : Int) (V : List S26) (hl : V.length < 4398046511104) (hk : U key) (hm : U me0) (hu : ∀ q ∈ V, U q.f0) (hb : ∀ q ∈ V, btw me0 q.f0 key = true) (hp : V.Pairwise (fun a b => lt me0 a b = true ∧ a.f1 ≠ b.f1)) :
    ∀ n i, i + n = V.length → ∃ K, annuletlaw28_FingsNear.l0 K key V (i : Int) me0 me1 = some true := by
  rw [List.pairwise_iff_getElem] at hp
  intro n
  induction n with
  | zero =>
    intro i hi
    refine ⟨11, ?_⟩
    rw [annuletlaw28_FingsNear.l0, if_neg (by omega), awake_10, Option.bind_some]
  | succ n ih =>
    intro i hi
    have hlt : i < V.length := by omega
    obtain ⟨K, hK⟩ := ih (i + 1) (by omega)
    have hin := inner key me0 me1 V hl i hlt (fun j hj hji => (hp j i hj hlt hji).2) K hK i 0 (by omega)
    refine ⟨K + i + 3, ?_⟩
    rw [annuletlaw28_FingsNear.l0, if_pos (by omega), if_pos (by omega), rdP hlt, ring_btw, hb _ (List.getElem_mem hlt), Option.bind_some, if_pos rfl]
    have hj2 : annuletlaw28_FingsNear.j2 (K + i + 2) key V (i : Int) false me0 me1 = some true := by
      rw [annuletlaw28_FingsNear.j2, if_neg (by decide)]
      exact hin
    by_cases c : (i : Int) > 0
    · obtain ⟨p, rfl⟩ : ∃ p, i = p + 1 := ⟨i - 1, by omega⟩
      have hpl : p < V.length := by omega
      have hw : wrap64 (((p + 1 : Nat) : Int) - 1) = (p : Int) := by unfold wrap64; omega
      rw [if_pos c, hw, if_pos (by omega), if_pos (by omega), rdP hpl, ring_dist, Option.bind_some, ring_dist, Option.bind_some]
      have h1 := (hp p (p + 1) hpl hlt (by omega)).1
      unfold lt at h1
      rw [decide_eq_true_eq] at h1
      have h2 := nearer hm hk (hu _ (List.getElem_mem hpl)) (hu _ (List.getElem_mem hlt)) (hb _ (List.getElem_mem hpl)) (hb _ (List.getElem_mem hlt)) (by omega)
      rw [decide_eq_false h2]
      exact hj2
    · rw [if_neg c]
      exact hj2

theorem FingsNear : annuletlaw28_FingsNear.Pure := by
  intro x l1 l2 key hx h1 h2 hkey
  by_cases c : (l1.length : Int) > 60
  · refine ⟨11, ?_⟩
    unfold annuletlaw28_FingsNear.f
    rw [if_pos c, annuletlaw28_FingsNear.j0, if_pos rfl, awake_10, Option.bind_some]
  · by_cases d : (l2.length : Int) > 100
    · refine ⟨11, ?_⟩
      unfold annuletlaw28_FingsNear.f
      rw [if_neg c, annuletlaw28_FingsNear.j0, if_pos (decide_eq_true d), awake_10, Option.bind_some]
    · have hl := hops_len x.f0 x.f1 l1 l2 key 200 (by omega)
      have hau : ∀ q ∈ hops_all l1 l2, U q.f0 := by
        intro q hq
        have hq' : q ∈ firm l1 ++ l2.map fun x => x.f1 := hq
        rw [List.mem_append] at hq'
        rcases hq' with hq' | hq'
        · obtain ⟨y, hy, rfl⟩ := firm_mem hq'
          exact wf_u64 (h1.2 y hy).1.1
        · rw [List.mem_map] at hq'
          obtain ⟨y, hy, rfl⟩ := hq'
          exact wf_u64 (h2.2 y hy).2.1
      obtain ⟨K, hK⟩ := outer key x.f0 x.f1 (hopsV x.f0 x.f1 l1 l2 key 200) (by omega) (wf_u64 hkey) (wf_u64 hx.1) (fun q hq => hau q (hops_mem hq).1) (fun q hq => (hops_mem hq).2.2) (hopsV_pairwise _ _ _ _ _ _) (hopsV x.f0 x.f1 l1 l2 key 200).length 0 (by omega)
      refine ⟨K + 1, ?_⟩
      unfold annuletlaw28_FingsNear.f
      rw [if_neg c, annuletlaw28_FingsNear.j0, if_neg (by rw [decide_eq_true_eq]; exact d), fings_hops _ _ _ _ _ _ (by omega) (by omega), Option.bind_some]
      exact hK

end Go.Proofs.Ytnnhmceaoobihaa.Pure
