/- Printed for this claim by this session's own driver over the kit's printer: the machine side of plain functions: what each returns, and that it leaves memory below its own blocks alone. -/
import Derived.Test.YtfgclmbndgakgaaDoorPAx0
namespace Go.Proofs.YtfgclmbndgakgaaDoor.PA
open Go.RowKit Go.Proofs.YtfgclmbndgakgaaDoorW.PrintWords Go.Proofs.YtfgclmbndgakgaaDoorW.PrintLast Go.Proofs.YtfgclmbndgakgaaDoor.PC1 Go.Proofs.YtfgclmbndgakgaaDoor.PR Go.Proofs.YtfgclmbndgakgaaDoorW.PrintMore
attribute [local go_sem] max2_int min2_int max_two min_two max_three min_three max_four min_four   -- for this text's walks alone
set_option linter.unusedVariables false
set_option linter.unusedSimpArgs false

theorem eqA23 (d : Nat) (w : World) (x0 y0 : Int) (x1 y1 : Int) :
    (Op.equalIn (d + 2) 23 (.agg #[.int .i64 x0, .int .i64 x1]) (.agg #[.int .i64 y0, .int .i64 y1])).run Tryd.prog w = .ok (x0 == y0 && (x1 == y1)) w := by
  refine eqA_of Tryd.underlying23 (by kernel_rfl) ?_
  refine eqf_cons (by rfl) (by go_simp; rfl) (by go_simp; rfl) (by go_simp) ?_
  exact eqf_last (by rfl) (by go_simp; rfl) (by go_simp; rfl) (by go_simp)
end Go.Proofs.YtfgclmbndgakgaaDoor.PA
