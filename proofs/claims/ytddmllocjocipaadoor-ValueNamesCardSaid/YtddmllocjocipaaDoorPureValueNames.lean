/- The law ValueNames: a closed statement. Conditions: none. -/
import Derived.Test.YtddmllocjocipaaDoorDx15
namespace Go.Proofs.YtddmllocjocipaaDoor.D
set_option maxRecDepth 100000 in
theorem ValueNames_pure : covenantlaw01_ValueNames.f 1000 = some true := by kernel_rfl
end Go.Proofs.YtddmllocjocipaaDoor.D
