/- The walk of the Go functions that a law reaches, told as plain functions; a program of this session has written it. No condition beyond the statement's own. -/
import Derived.Test.YtlmhgjnlbokceaaPDownTellsx0
import Derived.Test.YtlmhgjnlbokceaaPDownTellsx1
namespace Go.Proofs.Ytlmhgjnlbokceaa.PDownTells
open Go.RowKit Go.Proofs.YtlmhgjnlbokceaaW.PrintWords Go.Proofs.YtlmhgjnlbokceaaW.PrintLast Go.Proofs.YtlmhgjnlbokceaaW.PrintMore
attribute [local go_sem] max2_int min2_int max_two min_two max_three min_three max_four min_four   -- for this text's walks alone
set_option linter.unusedVariables false
set_option linter.unusedSimpArgs false

theorem eqA31 (d : Nat) (w : World) (x0 y0 : Int) (x1 y1 : Int) (x2 y2 : Int) :
    (Op.equalIn (d + 3) 31 (.agg #[.int .i64 x0, .int .i64 x1, .int .i64 x2]) (.agg #[.int .i64 y0, .int .i64 y1, .int .i64 y2])).run Try.prog w = .ok (x0 == y0 && ((x1 == y1 && (x2 == y2)))) w := by
  refine eqA_of Try.underlying31 (by kernel_rfl) ?_
  refine eqf_cons (by rfl) (by go_simp; rfl) (by go_simp; rfl) (by go_simp) ?_
  exact eqf_last (by rfl) (by go_simp) (by go_simp) (eqA29 (d + 0) w _ _ _ _)
end Go.Proofs.Ytlmhgjnlbokceaa.PDownTells
