-- Printed by fprint.py (a program of this session's, over the kit's print), for this claim.
import Derived.Test.YtnnhmceaoobihaaPSayFingsMoves
import Derived.Test.YtnnhmceaoobihaaRows
import Derived.Test.YtnnhmceaoobihaaPureFingsMoves
import Derived.WalkKit
import Derived.ProofKit
import Derived.OpenShut
import Derived.ShutString
import Derived.ChangeOld
import Derived.Below
import Derived.SizedLaws
namespace Go.Proofs.Ytnnhmceaoobihaa.fingsMoves
open Go.ChangeShapes Go.WideShapes Go.ChangeAt Go.RowKit Go.Proofs.Ytnnhmceaoobihaa.P Go.Proofs.YtnnhmceaoobihaaW.PrintWords Go.Proofs.YtnnhmceaoobihaaW.PrintOpen
open Go.ChangeMaps (open_string shut_string)
theorem own : ownKnob Try.prog.godebug = none := by kernel_rfl
theorem laidOut : laidOutB Try.prog = true := by kernel_rfl
theorem op0 : Opens Try.prog (Kd.slice 45 k45) 22 (fun z => (z.length * 24 ≤ 140737488351232 ∧ ∀ y ∈ z, wf45 y)) := (Opens.slice Try.underlying22 (by kernel_rfl) (B := 24) (by kernel_rfl) opens45)
theorem op2 : Opens Try.prog k26 26 (fun z => wf26 z) := opens26
set_option maxRecDepth 100000 in
theorem lifted (os : Os) (started : os.Started) (H : Type) (enc : TypeId × Value → H) :
    ReturnsInHanded {} Try.checked os 3 .any (Rows.fingsMovesSpec.pre6 enc Try.prog Try.f3 Rows.fingsMovesRow.domain false) (Rows.fingsMovesSpec.post enc Try.prog Try.f3 false true false false) := by
  refine returnsInHanded_of_change_sized (C := Try.checked) own started (by kernel_rfl) Try.func3
    (ChangeSpec.witness6 (enc := enc) (C := Try.checked) false ⟨#[], #[.slice none 0 0, .int .i64 0, .agg #[.int .u64 0, .int .u16 0]], []⟩ 8 (by kernel_rfl) (by kernel_rfl) (by kernel_rfl) (by kernel_rfl)) ?_
  intro W base args ds gs before hval0 hW hcnd hsz0 _
  have hsz : (DataW.weightsEach Try.prog (Try.f3.params.toList ++ Rows.fingsMovesSpec.plain.varTypes Try.prog) (ds ++ gs)).all (· ≤ reachBytes) = true := hsz0
  have hval : ∀ (j : Nat) t v, Try.f3.params[j]? = some t → args[j]? = some v → Value.okWide Try.prog W .any base t v := hval0
  have hW' := hW
  obtain ⟨p, q, hA0, hV, rfl, hfz, hnd⟩ := hW
  have hA : DataW.TrodAll enc Try.prog W 0 (fun _ => true) true Try.f3.params.toList args.toList ds p := hA0
  rw [Try.params3] at hA hval hsz
  obtain ⟨v0, vs0, d0, ds0, p0, q0, hargs, rfl, rfl, h0, r0⟩ := trodAll_cons hA
  obtain ⟨v1, vs1, d1, ds1, p1, q1, rfl, rfl, rfl, h1, r1⟩ := trodAll_cons r0
  obtain ⟨v2, vs2, d2, ds2, p2, q2, rfl, rfl, rfl, h2, r2⟩ := trodAll_cons r1
  obtain ⟨rfl, rfl, rfl⟩ := trodAll_nil r2
  obtain rfl : args = #[v0, v1, v2] := by cases args; simp_all
  obtain ⟨rfl, rfl⟩ := trodVars_none hV
  have lt0 : ∀ x ∈ p0, x.block < W.heap.size := by obtain ⟨m, hm⟩ := h0; exact DataW.trod_lt m _ _ _ hm
  obtain ⟨x0, kk0, w0⟩ := op0.arg 0 hsz rfl rfl h0
  obtain ⟨z0, len0, cap0, rfl⟩ := okWide_slice Try.underlying22 (hval 0 22 v0 rfl rfl)
  obtain ⟨A0, c0, e0, hc0, hr0⟩ := kk0
  obtain ⟨rfl, rfl, rfl⟩ := Value.slice.inj (List.cons.inj (show [Value.slice z0 len0 cap0] = [Value.slice A0 x0.length c0] from e0)).1
  obtain ⟨a1, rfl, rfl, rfl, w1⟩ := open_int Try.underlying3 (hval 1 3 v1 rfl rfl) h1
  have lt2 : ∀ x ∈ p2, x.block < W.heap.size := by obtain ⟨m, hm⟩ := h2; exact DataW.trod_lt m _ _ _ hm
  obtain ⟨x2, kk2, w2⟩ := op2.arg 2 hsz rfl rfl h2
  obtain ⟨z2, rfl, sz2⟩ := okWide_struct Try.underlying26 (hval 2 26 v2 rfl rfl)
  have e2 := k26_open kk2
  obtain rfl : z2 = #[.int .u64 x2.f0, .int .u16 x2.f1] := by cases z2; exact congrArg Array.mk e2
  clear hA0 hval0 hsz0 hsz
  obtain ⟨k, hP⟩ := Pure.FingsMoves x0 a1 x2 w0 w1 w2
  refine (annuletlaw28_FingsMoves.calls k _ _ x0 a1 x2.f0 x2.f1 true W hr0 hc0 hP).mono fun e W' hpost => ?_
  obtain ⟨he, bel0⟩ := hpost
  have bel : Below W.heap.size W W' := bel0
  subst he
  exact ⟨_, rfl, _, _, _, [], _, [], hW', trodAll_mk1 (shut_bool Try.underlying4 _), (trodAll_cons_mk (Below.trod laidOut (by kernel_rfl) (of_decide_eq_true (by kernel_rfl)) h0 bel lt0) (trodAll_cons_mk (shut_int Try.underlying3 w1) (trodAll_cons_mk (Below.trod laidOut (by kernel_rfl) (of_decide_eq_true (by kernel_rfl)) h2 bel lt2) trodAll_mk0))), rfl, bel.frame _, fun h => by cases h⟩
theorem over : Rows.fingsMovesRow.holds Try.pinned (OpenSpec.ofChange Rows.fingsMovesSpec) :=
  OpenClaim.holds_of_wide 3 Try.f3 rfl rfl rfl rfl rfl rfl rfl ⟨rfl, rfl, rfl, rfl, rfl⟩ rfl rfl rfl rfl rfl (by kernel_rfl) Try.func3 (by kernel_rfl)
    (of_decide_eq_true (by kernel_rfl)) (by unfold Func.isWrapper; first | (rw [if_pos (by decide +kernel)]; kernel_rfl) | (rw [if_neg (by decide +kernel)]; exact ⟨rfl, rfl⟩))
    (fun os started H enc _ => lifted os started H enc)
theorem proved : Rows.FingsMovesSaid := over
#print axioms proved
end Go.Proofs.Ytnnhmceaoobihaa.fingsMoves
namespace Go.Proofs.Ytnnhmceaoobihaa
/-- The row, under a short name, for the claim. -/
theorem fingsMoves_holds : Rows.FingsMovesSaid := fingsMoves.proved
end Go.Proofs.Ytnnhmceaoobihaa
