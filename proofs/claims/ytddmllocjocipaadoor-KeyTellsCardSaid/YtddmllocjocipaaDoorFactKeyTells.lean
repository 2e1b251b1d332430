/- The closed facts of the row of KeyTells that its tie asks. Conditions: none. -/
import Derived.Test.YtddmllocjocipaaDoorRows
import Derived.Deep.DeepHandedRow
namespace Go.Proofs.YtddmllocjocipaaDoor.keyTells
set_option maxRecDepth 100000 in
theorem closed : joinedFacts Tryd.pinned.checked.prog 5 Tryd.f5 (OpenSpec.ofChange Rows.keyTellsSpec).bare Rows.keyTellsRow = true := by kernel_rfl
theorem named : Tryd.pinned.checked.prog.funcNamed Rows.keyTellsRow.func = some 5 := by kernel_rfl
end Go.Proofs.YtddmllocjocipaaDoor.keyTells
