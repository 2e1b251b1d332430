/- The examples that each law of the layer row asks first; a row's text is read back as the row. Conditions: as each theorem states them. -/
import Derived.Test.YtddmllocjocipaaDoorRow
import Derived.Test.YtddmllocjocipaaDoorDx20
namespace Go.Proofs.YtddmllocjocipaaDoor.D
open Go.RowKit Go.Proofs.YtddmllocjocipaaDoorW.PrintWords Go.Proofs.YtddmllocjocipaaDoorW.PrintLast Go.Proofs.YtddmllocjocipaaDoorW.PrintMore
set_option linter.unusedSimpArgs false
set_option linter.unusedVariables false
set_option maxRecDepth 100000 in
theorem exam_100 : covenantlaw05_works.f 100 = some true := by kernel_rfl
theorem exam_spec : ∀ (k : Nat), 100 ≤ k → covenantlaw05_works.f k = some true := by
  intro k hk
  obtain ⟨d, rfl⟩ : ∃ d, k = 100 + d := ⟨k - 100, by omega⟩
  clear hk
  induction d with
  | zero => exact exam_100
  | succ d ih => exact covenantlaw05_works.mono (100 + d) _ ih
end Go.Proofs.YtddmllocjocipaaDoor.D
