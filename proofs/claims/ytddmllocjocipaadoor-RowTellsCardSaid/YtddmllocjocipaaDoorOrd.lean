/- Which of two values, and of two rows, stands ahead: each is an order. Conditions: none. -/
import Derived.Test.YtddmllocjocipaaDoorCmp
namespace Go.Proofs.YtddmllocjocipaaDoor.D
open Go.RowKit Go.Proofs.YtddmllocjocipaaDoorW.PrintWords Go.Proofs.YtddmllocjocipaaDoorW.PrintLast Go.Proofs.YtddmllocjocipaaDoorW.PrintMore
set_option linter.unusedSimpArgs false
set_option linter.unusedVariables false
/-- Lists by a comparing: the first two that are not the same, else how many there are. -/
def lstC {α : Type} (c : α → α → Int) : List α → List α → Int
  | [], [] => 0
  | [], _ :: _ => -1
  | _ :: _, [] => 1
  | x :: l, y :: m => if c x y = 0 then lstC c l m else c x y
theorem s23_ext {a b : S23} (h0 : a.f0 = b.f0) (h1 : a.f1 = b.f1) (h2 : a.f2 = b.f2) (h3 : a.f3 = b.f3) : a = b := by
  cases a; cases b; simp_all
def cmpRows : List S23 → List S23 → Int := lstC cmpV
end Go.Proofs.YtddmllocjocipaaDoor.D
