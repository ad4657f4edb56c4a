/- It is proved that, for every node and key, the program's step of a lookup, and whether the node owns the key, are what the reference says. No condition. -/
import Derived.Test.YtimihoepnkeioaaPSayRouteSteps
import Derived.Test.YtimihoepnkeioaaRouteLaw
import Derived.Test.YtimihoepnkeioaaPeersLaw
namespace Go.Proofs.Ytimihoepnkeioaa.Pure
open Go.RowKit Go.Proofs.Ytimihoepnkeioaa.P Go.Proofs.YtimihoepnkeioaaW.PrintWords Go.Proofs.YtimihoepnkeioaaW.PrintLast Go.Proofs.Ytimihoepnkeioaa.HopsLaw Go.Proofs.Ytimihoepnkeioaa.RouteLaw
set_option linter.unusedVariables false
set_option linter.unusedSimpArgs false

def RSt (k : Nat) (x : S34) (key : Int) : Option (Int × Int × List S25 × Bool) := annuletref32_Step.f k x.f0.f0 x.f0.f1 x.f1 x.f2 x.f3 x.f4 x.f5 x.f6 x.f7 x.f8 x.f9 x.f10 x.f11 x.f12 key
theorem ref_step (x : S34) (key : Int) (h4 : x.f4.length < 549755813888) (h5 : x.f5.length < 549755813888) (hkey : U key) (hme : U x.f0.f0) (u3 : ∀ y ∈ x.f3, U y.f0.f0) (u4 : ∀ y ∈ x.f4, U y.f0.f0) (u5 : ∀ y ∈ x.f5, U y.f1.f0) :
    ∃ k, ∀ k', k ≤ k' → RSt k' x key = some (stepV x key) := by
  obtain ⟨kh, hh⟩ := ref_hops x.f0.f0 x.f0.f1 x.f4 x.f5 key 4 hkey hme h4 h5 u4 u5
  refine ⟨max kh (x.f4.length + 1) + 2, fun k' hk' => ?_⟩
  obtain ⟨K, rfl⟩ : ∃ K, k' = K + 2 := ⟨k' - 2, by omega⟩
  unfold RSt annuletref32_Step.f
  rw [ref_firm_k x.f4 (by omega) (K + 2) (by omega), Option.bind_some]
  have hj1 : annuletref32_Step.j1 (K + 1) key (behindV x key) x.f0.f0 x.f0.f1 x.f1 x.f2 x.f3 x.f4 x.f5 x.f6 x.f7 x.f8 x.f9 x.f10 x.f11 x.f12 = some (if behindV x key = true then (x.f0.f0, x.f0.f1, [], true)
    else match hopsV x.f0.f0 x.f0.f1 x.f4 x.f5 key 4 with
      | [] => (x.f0.f0, x.f0.f1, [], true)
      | h :: t => (0, 0, h :: t, false)) := by
    rw [annuletref32_Step.j1]
    by_cases c3 : behindV x key = true
    · rw [if_pos c3, if_pos c3]
    · rw [if_neg c3, if_neg c3, hh K (by omega), Option.bind_some]
      cases hv : hopsV x.f0.f0 x.f0.f1 x.f4 x.f5 key 4 with
      | nil => rfl
      | cons a b => rw [if_neg (by simp only [List.length_cons]; omega)]
  unfold stepV
  cases hf : firm x.f4 with
  | nil => rw [if_pos (show ((([] : List S25).length : Nat) : Int) = 0 from rfl), annuletref32_Step.j0, if_pos rfl]
  | cons p t =>
    have hpu : U p.f0 := by
      obtain ⟨y, hy, he⟩ := firm_mem (l := x.f4) (q := p) (by rw [hf]; exact List.mem_cons_self)
      rw [← he]; exact u4 y hy
    rw [if_neg (by simp only [List.length_cons]; omega), annuletref32_Step.j0]
    by_cases c1 : key = x.f0.f0
    · rw [if_pos (beq_iff_eq.2 c1)]
      simp only [if_pos c1]
    · rw [if_neg (fun h => c1 (beq_iff_eq.1 h))]
      simp only [if_neg c1]
      have hp : rd_T25 (p :: t) 0 = p := rfl
      rw [if_pos (by simp only [List.length_cons]; omega), hp, ref_upto hme hkey hpu, Option.bind_some]
      by_cases c2 : uptoV x.f0.f0 key p.f0 = true
      · rw [if_pos c2]
        simp only [if_pos c2]
      · rw [if_neg c2]
        simp only [if_neg c2]
        cases h3 : x.f3 with
        | nil =>
          have hbv : behindV x key = false := by unfold behindV; rw [h3]
          rw [hbv, h3] at hj1
          rw [if_neg (by decide), hj1, hbv]
          rfl
        | cons q s =>
          have hqu : U q.f0.f0 := u3 q (by rw [h3]; exact List.mem_cons_self)
          have hq : rd_T46 (q :: s) 0 = q := rfl
          rw [if_pos (by simp only [List.length_cons]; omega), if_pos (by simp only [List.length_cons]; omega), hq]
          by_cases c4 : q.f1 < 1
          · have hbv : behindV x key = uptoV q.f0.f0 key x.f0.f0 := by unfold behindV; rw [h3]; simp only; rw [if_pos (by omega)]
            rw [if_pos c4, ref_upto hqu hkey hme, Option.bind_some]
            rw [h3, hbv] at hj1
            rw [hj1, hbv]
            rfl
          · have hbv : behindV x key = false := by unfold behindV; rw [h3]; simp only; rw [if_neg (by omega)]
            rw [if_neg c4]
            rw [h3, hbv] at hj1
            rw [hj1, hbv]
            rfl

theorem RouteSteps : annuletlaw32_RouteSteps.Pure := by
  intro x key hx hkey
  obtain ⟨w0, _, _, w3, w4, w5, w6, w7, w8, w9, _⟩ := hx
  obtain ⟨kl, b, hL, hb⟩ := large_is x (by omega) (by omega) (by omega)
  cases b with
  | true =>
    refine ⟨kl + 1, ?_⟩
    have hLk := hL (kl + 1) (by omega)
    unfold Lg at hLk
    unfold annuletlaw32_RouteSteps.f
    rw [hLk, Option.bind_some, if_pos rfl, awake_is, Option.bind_some]
  | false =>
    obtain ⟨b3, b4, b5⟩ := hb rfl
    obtain ⟨kr, hr⟩ := ref_step x key (by omega) (by omega) (wf_u64 hkey) (wf_u64 w0.1) (fun y hy => wf_u64 (w3.2 y hy).1.1) (fun y hy => wf_u64 (w4.2 y hy).1.1) (fun y hy => wf_u64 (w5.2 y hy).2.1)
    have hn := step_near x key
    refine ⟨kl + kr + (stepV x key).2.2.1.length + 1, ?_⟩
    have hLk := hL (kl + kr + (stepV x key).2.2.1.length + 1) (by omega)
    have hRk := hr (kl + kr + (stepV x key).2.2.1.length + 1) (by omega)
    have hs := step_is x key (by omega) (by omega) (kl + kr + (stepV x key).2.2.1.length)
    have hm := mine_is x key (by omega) (by omega) (kl + kr + (stepV x key).2.2.1.length)
    have hp := peers_same (stepV x key).2.2.1 (by omega) (kl + kr + (stepV x key).2.2.1.length + 1) (by omega)
    have hrm : annuletref32_Mine.f (kl + kr + (stepV x key).2.2.1.length + 1) x.f0.f0 x.f0.f1 x.f1 x.f2 x.f3 x.f4 x.f5 x.f6 x.f7 x.f8 x.f9 x.f10 x.f11 x.f12 key = some (mineV x key) := by
      unfold annuletref32_Mine.f mineV
      unfold RSt at hRk
      rw [hRk, Option.bind_some]
      split <;> rfl
    unfold Lg at hLk
    unfold RSt at hRk
    unfold St at hs
    unfold Mn at hm
    unfold annuletlaw32_RouteSteps.f
    rw [hLk, Option.bind_some, if_neg (by decide), hs, Option.bind_some, hRk, Option.bind_some]
    rw [if_pos (by simp), hp, Option.bind_some, if_pos rfl, if_pos (by simp), hm, Option.bind_some, hrm, Option.bind_some, if_pos (by simp), awake_is, Option.bind_some]

end Go.Proofs.Ytimihoepnkeioaa.Pure
