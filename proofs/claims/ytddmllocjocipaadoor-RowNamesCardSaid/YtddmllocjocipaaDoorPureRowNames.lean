/- The law RowNames, with no program in sight: a closed statement. Conditions: none. -/
import Derived.Test.YtddmllocjocipaaDoorDx43
namespace Go.Proofs.YtddmllocjocipaaDoor.D
set_option maxRecDepth 100000 in
theorem RowNames_pure : rNames.f 1000 = some true := by kernel_rfl
end Go.Proofs.YtddmllocjocipaaDoor.D
