-- Printed by fprint.py (a program of this session's, over the kit's print), for this claim.
import Derived.Test.YtnkgniokppafhaaQx0
namespace Go.Proofs.Ytnkgniokppafhaa.Q
open Go.RowKit Go.Proofs.YtnkgniokppafhaaW.PrintWords Go.Proofs.YtnkgniokppafhaaW.PrintLast Go.Proofs.YtnkgniokppafhaaW.PrintMore
attribute [local go_sem] max2_int min2_int max_two min_two max_three min_three max_four min_four   -- for this text's walks alone
set_option linter.unusedVariables false
set_option linter.unusedSimpArgs false

theorem eqA25 (d : Nat) (w : World) (x0 y0 : Bool) (x1 y1 : Int) (x2 y2 : Int) (x3 y3 : Int) :
    (Op.equalIn (d + 2) 25 (.agg #[.bool x0, .int .u32 x1, .int .u32 x2, .int .u64 x3]) (.agg #[.bool y0, .int .u32 y1, .int .u32 y2, .int .u64 y3])).run Try.prog w = .ok (x0 == y0 && (x1 == y1 && (x2 == y2 && (x3 == y3)))) w := by
  refine eqA_of Try.underlying25 (by kernel_rfl) ?_
  refine eqf_cons (by rfl) (by go_simp; rfl) (by go_simp; rfl) (by go_simp) ?_
  refine eqf_cons (by rfl) (by go_simp; rfl) (by go_simp; rfl) (by go_simp) ?_
  refine eqf_cons (by rfl) (by go_simp; rfl) (by go_simp; rfl) (by go_simp) ?_
  exact eqf_last (by rfl) (by go_simp; rfl) (by go_simp; rfl) (by go_simp)
end Go.Proofs.Ytnkgniokppafhaa.Q
