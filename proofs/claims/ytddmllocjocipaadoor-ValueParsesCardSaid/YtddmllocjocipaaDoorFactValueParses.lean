/- The closed facts of the row of ValueParses that its tie asks. Conditions: none. -/
import Derived.Test.YtddmllocjocipaaDoorRows
import Derived.Deep.DeepHandedRow
namespace Go.Proofs.YtddmllocjocipaaDoor.valueParses
set_option maxRecDepth 100000 in
theorem closed : joinedFacts Tryd.pinned.checked.prog 7 Tryd.f7 (OpenSpec.ofChange Rows.valueParsesSpec).bare Rows.valueParsesRow = true := by kernel_rfl
theorem named : Tryd.pinned.checked.prog.funcNamed Rows.valueParsesRow.func = some 7 := by kernel_rfl
end Go.Proofs.YtddmllocjocipaaDoor.valueParses
