/- The law ValueParses, over the texts alone. Conditions: none. -/
import Derived.Test.YtddmllocjocipaaDoorPrs
import Derived.Test.YtddmllocjocipaaDoorDx33
namespace Go.Proofs.YtddmllocjocipaaDoor.D
open Go.RowKit Go.Proofs.YtddmllocjocipaaDoorW.PrintWords Go.Proofs.YtddmllocjocipaaDoorW.PrintLast Go.Proofs.YtddmllocjocipaaDoorW.PrintMore
theorem ValueParses_pure (s : ByteArray) : covenantlaw01_ValueParses.f 5000 s = some true := by
  unfold covenantlaw01_ValueParses.f
  by_cases h : (s.size : Int) > 2000
  · rw [if_pos h]
  · rw [if_neg h, parse_spec 5000 s (by omega) (by omega), ref_parse_spec 5000 s (by omega) (by omega), Option.bind_some, Option.bind_some]
    simp
end Go.Proofs.YtddmllocjocipaaDoor.D
