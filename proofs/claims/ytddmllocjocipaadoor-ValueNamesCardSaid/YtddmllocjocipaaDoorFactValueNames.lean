/- The closed facts of the row of ValueNames that its tie asks. Conditions: none. -/
import Derived.Test.YtddmllocjocipaaDoorRows
import Derived.Deep.DeepHandedRow
namespace Go.Proofs.YtddmllocjocipaaDoor.valueNames
set_option maxRecDepth 100000 in
theorem closed : joinedFacts Tryd.pinned.checked.prog 12 Tryd.f12 (OpenSpec.ofChange Rows.valueNamesSpec).bare Rows.valueNamesRow = true := by kernel_rfl
theorem named : Tryd.pinned.checked.prog.funcNamed Rows.valueNamesRow.func = some 12 := by kernel_rfl
end Go.Proofs.YtddmllocjocipaaDoor.valueNames
