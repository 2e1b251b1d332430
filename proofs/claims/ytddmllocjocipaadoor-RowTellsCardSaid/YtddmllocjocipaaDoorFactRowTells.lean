/- The closed facts of the row of RowTells that its tie asks. Conditions: none. -/
import Derived.Test.YtddmllocjocipaaDoorRows
import Derived.Deep.DeepHandedRow
namespace Go.Proofs.YtddmllocjocipaaDoor.rowTells
set_option maxRecDepth 100000 in
theorem closed : joinedFacts Tryd.pinned.checked.prog 4 Tryd.f4 (OpenSpec.ofChange Rows.rowTellsSpec).bare Rows.rowTellsRow = true := by kernel_rfl
theorem named : Tryd.pinned.checked.prog.funcNamed Rows.rowTellsRow.func = some 4 := by kernel_rfl
end Go.Proofs.YtddmllocjocipaaDoor.rowTells
