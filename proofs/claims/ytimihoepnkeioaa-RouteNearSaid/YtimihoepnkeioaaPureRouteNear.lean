/- It is proved that, for every node and key, who lies nearer is not the node, at most four are told, and each lies on the way from the node up to the key. No condition. -/
import Derived.Test.YtimihoepnkeioaaPSayRouteNear
import Derived.Test.YtimihoepnkeioaaRouteLaw
namespace Go.Proofs.Ytimihoepnkeioaa.Pure
open Go.RowKit Go.Proofs.Ytimihoepnkeioaa.P Go.Proofs.YtimihoepnkeioaaW.PrintWords Go.Proofs.YtimihoepnkeioaaW.PrintLast Go.Proofs.Ytimihoepnkeioaa.HopsLaw Go.Proofs.Ytimihoepnkeioaa.RouteLaw
set_option linter.unusedVariables false
set_option linter.unusedSimpArgs false

theorem near_loop (x : S34) (key : Int) (l : List S25) (ok : Bool) (hl : l.length ≤ 4) (hok : ok = ((l.length : Int) == 0)) (h : ∀ q ∈ l, q.f1 ≠ x.f0.f1 ∧ btw x.f0.f0 q.f0 key = true) : ∀ n i, i + n = l.length →
    annuletlaw32_RouteNear.l0 (n + 2) key l ok (i : Int) x.f0.f0 x.f0.f1 x.f1 x.f2 x.f3 x.f4 x.f5 x.f6 x.f7 x.f8 x.f9 x.f10 x.f11 x.f12 = some true := by
  intro n
  induction n with
  | zero =>
    intro i hi
    rw [annuletlaw32_RouteNear.l0, if_neg (by omega), if_pos (by rw [hok]; simp), if_pos (by omega), awake_is, Option.bind_some]
  | succ n ih =>
    intro i hi
    have hlt : i < l.length := by omega
    have hq := h _ (List.getElem_mem hlt)
    rw [annuletlaw32_RouteNear.l0, if_pos (by omega), if_pos (by omega), rdP hlt, if_neg hq.1, ring_btw, hq.2, Option.bind_some, if_pos rfl, step64 hlt (by omega)]
    exact ih (i + 1) (by omega)

theorem RouteNear : annuletlaw32_RouteNear.Pure := by
  intro x key hx hkey
  obtain ⟨w0, _, _, w3, w4, w5, w6, w7, w8, w9, _⟩ := hx
  obtain ⟨kl, b, hL, hb⟩ := large_is x (by omega) (by omega) (by omega)
  have hn := step_near x key
  refine ⟨max kl ((stepV x key).2.2.1.length + 2), ?_⟩
  have hLk := hL (max kl ((stepV x key).2.2.1.length + 2)) (Nat.le_max_left _ _)
  unfold Lg at hLk
  unfold annuletlaw32_RouteNear.f
  rw [hLk, Option.bind_some]
  cases b with
  | true =>
    rw [if_pos rfl, show max kl ((stepV x key).2.2.1.length + 2) = (max kl ((stepV x key).2.2.1.length + 2) - 1) + 1 by omega, awake_is, Option.bind_some]
  | false =>
    obtain ⟨b3, b4, b5⟩ := hb rfl
    rw [if_neg (by decide)]
    have hs := step_is x key (by omega) (by omega) (max kl ((stepV x key).2.2.1.length + 2) - 1)
    rw [show max kl ((stepV x key).2.2.1.length + 2) - 1 + 1 = max kl ((stepV x key).2.2.1.length + 2) by omega] at hs
    unfold St at hs
    rw [hs, Option.bind_some]
    have hl := near_loop x key (stepV x key).2.2.1 (stepV x key).2.2.2 hn.2.1 hn.1 hn.2.2 (stepV x key).2.2.1.length 0 (by omega)
    exact up (g := fun k => annuletlaw32_RouteNear.l0 k key (stepV x key).2.2.1 (stepV x key).2.2.2 0 x.f0.f0 x.f0.f1 x.f1 x.f2 x.f3 x.f4 x.f5 x.f6 x.f7 x.f8 x.f9 x.f10 x.f11 x.f12) (fun k => annuletlaw32_RouteNear.mono_l k _ _ _ _ _ _ _ _ _ _ _ _ _ _ _ _ _ _) hl _ (Nat.le_max_right _ _)

end Go.Proofs.Ytimihoepnkeioaa.Pure
