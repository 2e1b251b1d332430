/- The closed facts of the row of ValueBack that its tie asks. Conditions: none. -/
import Derived.Test.YtddmllocjocipaaDoorRows
import Derived.Deep.DeepHandedRow
namespace Go.Proofs.YtddmllocjocipaaDoor.valueBack
set_option maxRecDepth 100000 in
theorem closed : joinedFacts Tryd.pinned.checked.prog 8 Tryd.f8 (OpenSpec.ofChange Rows.valueBackSpec).bare Rows.valueBackRow = true := by kernel_rfl
theorem named : Tryd.pinned.checked.prog.funcNamed Rows.valueBackRow.func = some 8 := by kernel_rfl
end Go.Proofs.YtddmllocjocipaaDoor.valueBack
