/- The closed facts of the row of RowFits that its tie asks. Conditions: none. -/
import Derived.Test.YtddmllocjocipaaDoorRows
import Derived.Deep.DeepHandedRow
namespace Go.Proofs.YtddmllocjocipaaDoor.rowFits
set_option maxRecDepth 100000 in
theorem closed : joinedFacts Tryd.pinned.checked.prog 20 Tryd.f20 (OpenSpec.ofChange Rows.rowFitsSpec).bare Rows.rowFitsRow = true := by kernel_rfl
theorem named : Tryd.pinned.checked.prog.funcNamed Rows.rowFitsRow.func = some 20 := by kernel_rfl
end Go.Proofs.YtddmllocjocipaaDoor.rowFits
