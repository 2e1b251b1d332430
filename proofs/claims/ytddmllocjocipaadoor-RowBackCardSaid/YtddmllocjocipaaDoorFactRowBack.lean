/- The closed facts of the row of RowBack that its tie asks. Conditions: none. -/
import Derived.Test.YtddmllocjocipaaDoorRows
import Derived.Deep.DeepHandedRow
namespace Go.Proofs.YtddmllocjocipaaDoor.rowBack
set_option maxRecDepth 100000 in
theorem closed : joinedFacts Tryd.pinned.checked.prog 15 Tryd.f15 (OpenSpec.ofChange Rows.rowBackSpec).bare Rows.rowBackRow = true := by kernel_rfl
theorem named : Tryd.pinned.checked.prog.funcNamed Rows.rowBackRow.func = some 15 := by kernel_rfl
end Go.Proofs.YtddmllocjocipaaDoor.rowBack
