/- What the functions that a law reaches come to, as plain Lean functions, and the law's row: written by a session's own program over the kit's print.py, some functions proved by hand. Conditions: as each theorem states them. -/
import Derived.Test.YteklimdjlihloaaGx0
import Derived.Test.YteklimdjlihloaaTok
namespace Go.Proofs.Yteklimdjlihloaa.G
open Go.RowKit Go.Proofs.YteklimdjlihloaaW.PrintWords Go.Proofs.YteklimdjlihloaaW.PrintLast Go.Proofs.YteklimdjlihloaaW.PrintMore
attribute [local go_sem] max2_int min2_int max_two min_two max_three min_three max_four min_four   -- for this text's walks alone
set_option linter.unusedVariables false
set_option linter.unusedSimpArgs false

theorem eqA43 (d : Nat) (w : World) (x0 y0 : ByteArray) (x1 y1 : ByteArray) (x2 y2 : ByteArray) (x3 y3 : Int) (x4 y4 : Bool) :
    (Op.equalIn (d + 2) 43 (.agg #[.string x0, .string x1, .string x2, .int .u8 x3, .bool x4]) (.agg #[.string y0, .string y1, .string y2, .int .u8 y3, .bool y4])).run Try.prog w = .ok (x0.toList == y0.toList && (x1.toList == y1.toList && (x2.toList == y2.toList && (x3 == y3 && (x4 == y4))))) w := by
  refine eqA_of Try.underlying43 (by kernel_rfl) ?_
  refine eqf_cons (by rfl) (by go_simp; rfl) (by go_simp; rfl) (by go_simp) ?_
  refine eqf_cons (by rfl) (by go_simp; rfl) (by go_simp; rfl) (by go_simp) ?_
  refine eqf_cons (by rfl) (by go_simp; rfl) (by go_simp; rfl) (by go_simp) ?_
  refine eqf_cons (by rfl) (by go_simp; rfl) (by go_simp; rfl) (by go_simp) ?_
  exact eqf_last (by rfl) (by go_simp; rfl) (by go_simp; rfl) (by go_simp)
end Go.Proofs.Yteklimdjlihloaa.G
