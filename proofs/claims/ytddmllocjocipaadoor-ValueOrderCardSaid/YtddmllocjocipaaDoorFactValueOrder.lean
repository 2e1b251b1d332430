/- The closed facts of the row of ValueOrder that its tie asks. Conditions: none. -/
import Derived.Test.YtddmllocjocipaaDoorRows
import Derived.Deep.DeepHandedRow
namespace Go.Proofs.YtddmllocjocipaaDoor.valueOrder
set_option maxRecDepth 100000 in
theorem closed : joinedFacts Tryd.pinned.checked.prog 9 Tryd.f9 (OpenSpec.ofChange Rows.valueOrderSpec).bare Rows.valueOrderRow = true := by kernel_rfl
theorem named : Tryd.pinned.checked.prog.funcNamed Rows.valueOrderRow.func = some 9 := by kernel_rfl
end Go.Proofs.YtddmllocjocipaaDoor.valueOrder
