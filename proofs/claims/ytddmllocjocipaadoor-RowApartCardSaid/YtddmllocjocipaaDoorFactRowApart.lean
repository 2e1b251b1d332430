/- The closed facts of the row of RowApart that its tie asks. Conditions: none. -/
import Derived.Test.YtddmllocjocipaaDoorRows
import Derived.Deep.DeepHandedRow
namespace Go.Proofs.YtddmllocjocipaaDoor.rowApart
set_option maxRecDepth 100000 in
theorem closed : joinedFacts Tryd.pinned.checked.prog 18 Tryd.f18 (OpenSpec.ofChange Rows.rowApartSpec).bare Rows.rowApartRow = true := by kernel_rfl
theorem named : Tryd.pinned.checked.prog.funcNamed Rows.rowApartRow.func = some 18 := by kernel_rfl
end Go.Proofs.YtddmllocjocipaaDoor.rowApart
