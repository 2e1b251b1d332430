/- The closed facts of the row of RowParses that its tie asks. Conditions: none. -/
import Derived.Test.YtddmllocjocipaaDoorRows
import Derived.Deep.DeepHandedRow
namespace Go.Proofs.YtddmllocjocipaaDoor.rowParses
set_option maxRecDepth 100000 in
theorem closed : joinedFacts Tryd.pinned.checked.prog 14 Tryd.f14 (OpenSpec.ofChange Rows.rowParsesSpec).bare Rows.rowParsesRow = true := by kernel_rfl
theorem named : Tryd.pinned.checked.prog.funcNamed Rows.rowParsesRow.func = some 14 := by kernel_rfl
end Go.Proofs.YtddmllocjocipaaDoor.rowParses
