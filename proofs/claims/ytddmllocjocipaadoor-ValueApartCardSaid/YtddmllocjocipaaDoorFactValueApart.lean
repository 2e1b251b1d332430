/- The closed facts of the row of ValueApart that its tie asks. Conditions: none. -/
import Derived.Test.YtddmllocjocipaaDoorRows
import Derived.Deep.DeepHandedRow
namespace Go.Proofs.YtddmllocjocipaaDoor.valueApart
set_option maxRecDepth 100000 in
theorem closed : joinedFacts Tryd.pinned.checked.prog 11 Tryd.f11 (OpenSpec.ofChange Rows.valueApartSpec).bare Rows.valueApartRow = true := by kernel_rfl
theorem named : Tryd.pinned.checked.prog.funcNamed Rows.valueApartRow.func = some 11 := by kernel_rfl
end Go.Proofs.YtddmllocjocipaaDoor.valueApart
