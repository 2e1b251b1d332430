/- The closed facts of the row of ValueKinds that its tie asks. Conditions: none. -/
import Derived.Test.YtddmllocjocipaaDoorRows
import Derived.Deep.DeepHandedRow
namespace Go.Proofs.YtddmllocjocipaaDoor.valueKinds
set_option maxRecDepth 100000 in
theorem closed : joinedFacts Tryd.pinned.checked.prog 10 Tryd.f10 (OpenSpec.ofChange Rows.valueKindsSpec).bare Rows.valueKindsRow = true := by kernel_rfl
theorem named : Tryd.pinned.checked.prog.funcNamed Rows.valueKindsRow.func = some 10 := by kernel_rfl
end Go.Proofs.YtddmllocjocipaaDoor.valueKinds
