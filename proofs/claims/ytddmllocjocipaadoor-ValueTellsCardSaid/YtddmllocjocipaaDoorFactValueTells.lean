/- The closed facts of the row of ValueTells that its tie asks. Conditions: none. -/
import Derived.Test.YtddmllocjocipaaDoorRows
import Derived.Deep.DeepHandedRow
namespace Go.Proofs.YtddmllocjocipaaDoor.valueTells
set_option maxRecDepth 100000 in
theorem closed : joinedFacts Tryd.pinned.checked.prog 3 Tryd.f3 (OpenSpec.ofChange Rows.valueTellsSpec).bare Rows.valueTellsRow = true := by kernel_rfl
theorem named : Tryd.pinned.checked.prog.funcNamed Rows.valueTellsRow.func = some 3 := by kernel_rfl
end Go.Proofs.YtddmllocjocipaaDoor.valueTells
