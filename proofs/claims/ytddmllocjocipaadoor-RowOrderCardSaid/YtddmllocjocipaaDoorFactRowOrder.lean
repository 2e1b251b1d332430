/- The closed facts of the row of RowOrder that its tie asks. Conditions: none. -/
import Derived.Test.YtddmllocjocipaaDoorRows
import Derived.Deep.DeepHandedRow
namespace Go.Proofs.YtddmllocjocipaaDoor.rowOrder
set_option maxRecDepth 100000 in
theorem closed : joinedFacts Tryd.pinned.checked.prog 16 Tryd.f16 (OpenSpec.ofChange Rows.rowOrderSpec).bare Rows.rowOrderRow = true := by kernel_rfl
theorem named : Tryd.pinned.checked.prog.funcNamed Rows.rowOrderRow.func = some 16 := by kernel_rfl
end Go.Proofs.YtddmllocjocipaaDoor.rowOrder
