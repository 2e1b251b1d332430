/- The law KeyNames, as a statement about lists alone: the examples, and of nothing; it has no inputs. Conditions: none. -/
import Derived.Test.YtddmllocjocipaaKx6
namespace Go.Proofs.Ytddmllocjocipaa.Pure
open Go.RowKit Go.Proofs.Ytddmllocjocipaa.K Go.Proofs.YtddmllocjocipaaW.PrintWords Go.Proofs.YtddmllocjocipaaW.PrintLast

theorem KeyNames : covenantlaw06_KeyNames.Pure := ⟨30, by kernel_rfl⟩

end Go.Proofs.Ytddmllocjocipaa.Pure
