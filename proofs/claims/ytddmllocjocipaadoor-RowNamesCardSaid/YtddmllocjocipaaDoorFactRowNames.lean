/- The closed facts of the row of RowNames that its tie asks. Conditions: none. -/
import Derived.Test.YtddmllocjocipaaDoorRows
import Derived.Deep.DeepHandedRow
namespace Go.Proofs.YtddmllocjocipaaDoor.rowNames
set_option maxRecDepth 100000 in
theorem closed : joinedFacts Tryd.pinned.checked.prog 19 Tryd.f19 (OpenSpec.ofChange Rows.rowNamesSpec).bare Rows.rowNamesRow = true := by kernel_rfl
theorem named : Tryd.pinned.checked.prog.funcNamed Rows.rowNamesRow.func = some 19 := by kernel_rfl
end Go.Proofs.YtddmllocjocipaaDoor.rowNames
