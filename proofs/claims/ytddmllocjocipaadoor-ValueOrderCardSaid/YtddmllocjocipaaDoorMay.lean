/- Which values may be, and fit a kind: what the functions come to. Conditions: as each theorem states them. -/
import Derived.Test.YtddmllocjocipaaDoorDx2
import Derived.Test.YtddmllocjocipaaDoorOpen
import Derived.Lib.Strings
namespace Go.Proofs.YtddmllocjocipaaDoor.D
open Go.RowKit Go.Proofs.YtddmllocjocipaaDoorW.PrintWords Go.Proofs.YtddmllocjocipaaDoorW.PrintLast Go.Proofs.YtddmllocjocipaaDoorW.PrintMore
set_option linter.unusedSimpArgs false
theorem ba_eq {a b : ByteArray} (h : a.data.toList = b.data.toList) : a = b := by
  cases a; cases b; simp_all
theorem tl_eq (a : ByteArray) : a.toList = a.data.toList := by exact Lib.toList_data a
def MayV (a b c : Int) (s : ByteArray) : Prop := (a = 0 ∧ b = 0 ∧ c = 0 ∧ s.toList = []) ∨ (a = 1 ∧ c = 0 ∧ s.toList = []) ∨ (a = 2 ∧ (b = 0 ∨ b = 1) ∧ c = 0 ∧ s.toList = []) ∨ (a = 3 ∧ b = 0 ∧ c = 0 ∧ (s.size : Int) ≤ 256) ∨ (a = 4 ∧ s.toList = [] ∧ b < c)
instance (a b c : Int) (s : ByteArray) : Decidable (MayV a b c s) := by unfold MayV; infer_instance
end Go.Proofs.YtddmllocjocipaaDoor.D
