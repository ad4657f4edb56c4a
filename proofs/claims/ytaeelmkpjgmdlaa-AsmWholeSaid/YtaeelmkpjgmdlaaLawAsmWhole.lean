-- Printed by fprint.py (a program of this session's, over the kit's print), for this claim.
import Derived.Test.YtaeelmkpjgmdlaaPSayAsmWhole
import Derived.Test.YtaeelmkpjgmdlaaRows
import Derived.Test.YtaeelmkpjgmdlaaPureAsmWhole
import Derived.WalkKit
import Derived.ProofKit
import Derived.OpenShut
import Derived.ShutString
import Derived.ChangeOld
import Derived.Below
import Derived.SizedLaws
namespace Go.Proofs.Ytaeelmkpjgmdlaa.asmWhole
open Go.ChangeShapes Go.WideShapes Go.ChangeAt Go.RowKit Go.Proofs.Ytaeelmkpjgmdlaa.P Go.Proofs.YtaeelmkpjgmdlaaW.PrintWords Go.Proofs.YtaeelmkpjgmdlaaW.PrintOpen
open Go.ChangeMaps (open_string shut_string)
theorem own : ownKnob Try.prog.godebug = none := by kernel_rfl
theorem laidOut : laidOutB Try.prog = true := by kernel_rfl
theorem op1 : Opens Try.prog k38 38 (fun z => wf38 z) := opens38
theorem op2 : Opens Try.prog (Kd.slice 3 (Kd.int .i64)) 50 (fun z => (z.length * 8 ≤ 140737488351232 ∧ ∀ y ∈ z, (Lit.int .i64 y).wf = true)) := (Opens.slice Try.underlying50 (by kernel_rfl) (B := 8) (by kernel_rfl) (Opens.int Try.underlying3))
set_option maxRecDepth 100000 in
theorem lifted (os : Os) (started : os.Started) (H : Type) (enc : TypeId × Value → H) :
    ReturnsInHanded {} Try.checked os 5 .any (Rows.asmWholeSpec.pre6 enc Try.prog Try.f5 Rows.asmWholeRow.domain false) (Rows.asmWholeSpec.post enc Try.prog Try.f5 false true false false) := by
  refine returnsInHanded_of_change_sized (C := Try.checked) own started (by kernel_rfl) Try.func5
    (ChangeSpec.witness6 (enc := enc) (C := Try.checked) false ⟨#[], #[.int .i64 0, .agg #[.int .u8 0, .int .u8 0, .int .u32 0, .int .u32 0, .int .u16 0, .int .u16 0, .slice none 0 0], .slice none 0 0], []⟩ 8 (by kernel_rfl) (by kernel_rfl) (by kernel_rfl) (by kernel_rfl)) ?_
  intro W base args ds gs before hval0 hW hcnd hsz0 _
  have hsz : (DataW.weightsEach Try.prog (Try.f5.params.toList ++ Rows.asmWholeSpec.plain.varTypes Try.prog) (ds ++ gs)).all (· ≤ reachBytes) = true := hsz0
  have hval : ∀ (j : Nat) t v, Try.f5.params[j]? = some t → args[j]? = some v → Value.okWide Try.prog W .any base t v := hval0
  have hW' := hW
  obtain ⟨p, q, hA0, hV, rfl, hfz, hnd⟩ := hW
  have hA : DataW.TrodAll enc Try.prog W 0 (fun _ => true) true Try.f5.params.toList args.toList ds p := hA0
  rw [Try.params5] at hA hval hsz
  obtain ⟨v0, vs0, d0, ds0, p0, q0, hargs, rfl, rfl, h0, r0⟩ := trodAll_cons hA
  obtain ⟨v1, vs1, d1, ds1, p1, q1, rfl, rfl, rfl, h1, r1⟩ := trodAll_cons r0
  obtain ⟨v2, vs2, d2, ds2, p2, q2, rfl, rfl, rfl, h2, r2⟩ := trodAll_cons r1
  obtain ⟨rfl, rfl, rfl⟩ := trodAll_nil r2
  obtain rfl : args = #[v0, v1, v2] := by cases args; simp_all
  obtain ⟨rfl, rfl⟩ := trodVars_none hV
  obtain ⟨a0, rfl, rfl, rfl, w0⟩ := open_int Try.underlying3 (hval 0 3 v0 rfl rfl) h0
  have lt1 : ∀ x ∈ p1, x.block < W.heap.size := by obtain ⟨m, hm⟩ := h1; exact DataW.trod_lt m _ _ _ hm
  obtain ⟨x1, kk1, w1⟩ := op1.arg 1 hsz rfl rfl h1
  obtain ⟨z1, rfl, sz1⟩ := okWide_struct Try.underlying38 (hval 1 38 v1 rfl rfl)
  obtain ⟨A1_6, c1_6, e1, hc1_6, hr1_6⟩ := k38_open kk1
  obtain rfl : z1 = #[.int .u8 x1.f0, .int .u8 x1.f1, .int .u32 x1.f2, .int .u32 x1.f3, .int .u16 x1.f4, .int .u16 x1.f5, .slice A1_6 x1.f6.length c1_6] := by cases z1; exact congrArg Array.mk e1
  have lt2 : ∀ x ∈ p2, x.block < W.heap.size := by obtain ⟨m, hm⟩ := h2; exact DataW.trod_lt m _ _ _ hm
  obtain ⟨x2, kk2, w2⟩ := op2.arg 2 hsz rfl rfl h2
  obtain ⟨z2, len2, cap2, rfl⟩ := okWide_slice Try.underlying50 (hval 2 50 v2 rfl rfl)
  obtain ⟨A2, c2, e2, hc2, hr2⟩ := kk2
  obtain ⟨rfl, rfl, rfl⟩ := Value.slice.inj (List.cons.inj (show [Value.slice z2 len2 cap2] = [Value.slice A2 x2.length c2] from e2)).1
  clear hA0 hval0 hsz0 hsz
  obtain ⟨k, hP⟩ := Pure.AsmWhole a0 x1 x2 w0 w1 w2
  refine (annuletlaw23_AsmWhole.walked k a0 x1.f0 x1.f1 x1.f2 x1.f3 x1.f4 x1.f5 _ _ x1.f6 _ _ x2 true W hr1_6 hc1_6 hr2 hc2 hP).mono fun e W' hpost => ?_
  obtain ⟨he, bel0⟩ := hpost
  have bel : Below W.heap.size W W' := bel0
  subst he
  exact ⟨_, rfl, _, _, _, [], _, [], hW', trodAll_mk1 (shut_bool Try.underlying4 _), (trodAll_cons_mk (shut_int Try.underlying3 w0) (trodAll_cons_mk (Below.trod laidOut (by kernel_rfl) (of_decide_eq_true (by kernel_rfl)) h1 bel lt1) (trodAll_cons_mk (Below.trod laidOut (by kernel_rfl) (of_decide_eq_true (by kernel_rfl)) h2 bel lt2) trodAll_mk0))), rfl, bel.frame _, fun h => by cases h⟩
theorem over : Rows.asmWholeRow.holds Try.pinned (OpenSpec.ofChange Rows.asmWholeSpec) :=
  OpenClaim.holds_of_wide 5 Try.f5 rfl rfl rfl rfl rfl rfl rfl ⟨rfl, rfl, rfl, rfl, rfl⟩ rfl rfl rfl rfl rfl (by kernel_rfl) Try.func5 (by kernel_rfl)
    (of_decide_eq_true (by kernel_rfl)) (by unfold Func.isWrapper; first | (rw [if_pos (by decide +kernel)]; kernel_rfl) | (rw [if_neg (by decide +kernel)]; exact ⟨rfl, rfl⟩))
    (fun os started H enc _ => lifted os started H enc)
theorem proved : Rows.AsmWholeSaid := over
#print axioms proved
end Go.Proofs.Ytaeelmkpjgmdlaa.asmWhole
namespace Go.Proofs.Ytaeelmkpjgmdlaa
/-- The row, under a short name, for the claim. -/
theorem asmWhole_holds : Rows.AsmWholeSaid := asmWhole.proved
end Go.Proofs.Ytaeelmkpjgmdlaa
