/- It is proved that, for all entries, fingers, keys and bounds, those who lie nearer are the ones that the reference tells, in its order. No condition. -/
import Derived.Test.YtnnhmceaoobihaaPSayFingsHops
import Derived.Test.YtnnhmceaoobihaaFingsLaw
import Derived.Test.YtnnhmceaoobihaaPeersLaw
namespace Go.Proofs.Ytnnhmceaoobihaa.Pure
open Go.RowKit Go.Proofs.Ytnnhmceaoobihaa.P Go.Proofs.YtnnhmceaoobihaaW.PrintWords Go.Proofs.YtnnhmceaoobihaaW.PrintLast Go.Proofs.Ytnnhmceaoobihaa.HopsLaw Go.Proofs.Ytnnhmceaoobihaa.FingsLaw
set_option linter.unusedVariables false
set_option linter.unusedSimpArgs false

theorem FingsHops : annuletlaw28_FingsHops.Pure := by
  intro x l1 l2 key most hx h1 h2 hkey hmost
  by_cases c : (l1.length : Int) > 60
  · refine ⟨11, ?_⟩
    unfold annuletlaw28_FingsHops.f
    rw [if_pos c, annuletlaw28_FingsHops.j0, if_pos rfl, awake_10, Option.bind_some]
  · by_cases d : (l2.length : Int) > 100
    · refine ⟨11, ?_⟩
      unfold annuletlaw28_FingsHops.f
      rw [if_neg c, annuletlaw28_FingsHops.j0, if_pos (decide_eq_true d), awake_10, Option.bind_some]
    · obtain ⟨kr, hr⟩ := ref_hops x.f0 x.f1 l1 l2 key most (wf_u64 hkey) (wf_u64 hx.1) (by omega) (by omega) (fun y hy => wf_u64 (h1.2 y hy).1.1) (fun y hy => wf_u64 (h2.2 y hy).2.1)
      have hl : (hopsV x.f0 x.f1 l1 l2 key most).length < 4398046511104 := by
        have h3 : (hopsV x.f0 x.f1 l1 l2 key most).length ≤ (hops_all l1 l2).length := by
          unfold hopsV cut
          split
          · exact Nat.zero_le _
          · refine Nat.le_trans (List.length_take_le' _ _) ?_
            rw [Go.Proofs.YtnnhmceaoobihaaW.PrintSort.sorted_length _ (hops_swo x.f0)]
            exact hops_out_len _ _ _ _ _
        have h4 := firm_len l1
        have h5 : (hops_all l1 l2).length = (firm l1).length + l2.length := by
          show (firm l1 ++ l2.map fun x => x.f1).length = _
          rw [List.length_append, List.length_map]
        omega
      refine ⟨kr + (hopsV x.f0 x.f1 l1 l2 key most).length + 11 + 1, ?_⟩
      unfold annuletlaw28_FingsHops.f
      rw [if_neg c, annuletlaw28_FingsHops.j0, if_neg (by rw [decide_eq_true_eq]; exact d), fings_hops _ _ _ _ _ _ (by omega) (by omega), Option.bind_some, hr _ (by omega), Option.bind_some, peers_same _ hl _ (by omega), Option.bind_some, if_pos rfl, awake_k _ (by omega), Option.bind_some]

end Go.Proofs.Ytnnhmceaoobihaa.Pure
