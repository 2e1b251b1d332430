/- The closed facts of the row of KeySame that its tie asks. Conditions: none. -/
import Derived.Test.YtddmllocjocipaaDoorRows
import Derived.Deep.DeepHandedRow
namespace Go.Proofs.YtddmllocjocipaaDoor.keySame
set_option maxRecDepth 100000 in
theorem closed : joinedFacts Tryd.pinned.checked.prog 6 Tryd.f6 (OpenSpec.ofChange Rows.keySameSpec).bare Rows.keySameRow = true := by kernel_rfl
theorem named : Tryd.pinned.checked.prog.funcNamed Rows.keySameRow.func = some 6 := by kernel_rfl
end Go.Proofs.YtddmllocjocipaaDoor.keySame
