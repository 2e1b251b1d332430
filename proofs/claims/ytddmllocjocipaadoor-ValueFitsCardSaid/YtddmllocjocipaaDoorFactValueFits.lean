/- The closed facts of the row of ValueFits that its tie asks. Conditions: none. -/
import Derived.Test.YtddmllocjocipaaDoorRows
import Derived.Deep.DeepHandedRow
namespace Go.Proofs.YtddmllocjocipaaDoor.valueFits
set_option maxRecDepth 100000 in
theorem closed : joinedFacts Tryd.pinned.checked.prog 13 Tryd.f13 (OpenSpec.ofChange Rows.valueFitsSpec).bare Rows.valueFitsRow = true := by kernel_rfl
theorem named : Tryd.pinned.checked.prog.funcNamed Rows.valueFitsRow.func = some 13 := by kernel_rfl
end Go.Proofs.YtddmllocjocipaaDoor.valueFits
