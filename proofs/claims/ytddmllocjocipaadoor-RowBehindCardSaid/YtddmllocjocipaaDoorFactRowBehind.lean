/- The closed facts of the row of RowBehind that its tie asks. Conditions: none. -/
import Derived.Test.YtddmllocjocipaaDoorRows
import Derived.Deep.DeepHandedRow
namespace Go.Proofs.YtddmllocjocipaaDoor.rowBehind
set_option maxRecDepth 100000 in
theorem closed : joinedFacts Tryd.pinned.checked.prog 17 Tryd.f17 (OpenSpec.ofChange Rows.rowBehindSpec).bare Rows.rowBehindRow = true := by kernel_rfl
theorem named : Tryd.pinned.checked.prog.funcNamed Rows.rowBehindRow.func = some 17 := by kernel_rfl
end Go.Proofs.YtddmllocjocipaaDoor.rowBehind
