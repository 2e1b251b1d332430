/- What the functions that a law reaches come to, as plain Lean functions, and the law's row: written by a session's own program over the kit's print.py, some functions proved by hand. Conditions: as each theorem states them. -/
import Derived.Test.YtddmllocjocipaaDoorDx0
import Derived.Test.YtddmllocjocipaaDoorGw
import Derived.Lib.AppendIntMem
namespace Go.Proofs.YtddmllocjocipaaDoor.D
open Go.RowKit Go.Proofs.YtddmllocjocipaaDoorW.PrintWords Go.Proofs.YtddmllocjocipaaDoorW.PrintLast Go.Proofs.YtddmllocjocipaaDoorW.PrintMore
attribute [local go_sem] max2_int min2_int max_two min_two max_three min_three max_four min_four   -- for this text's walks alone
set_option linter.unusedVariables false
set_option linter.unusedSimpArgs false

/-! ### strings_ReplaceAll: function 73: by hand -/
def strings_ReplaceAll.f (a0 : ByteArray) (a1 : ByteArray) (a2 : ByteArray) : Option (ByteArray) := if a0.size < 4294967281 ∧ 1 ≤ a1.size ∧ a0.size + Lib.countB a0 a1 * a2.size ≤ 140737488355328 then some ⟨(Lib.replaceAll a0.data.toList a1.data.toList a2.data.toList).toArray⟩ else none
theorem strings_ReplaceAll.calls (a0 : ByteArray) (a1 : ByteArray) (a2 : ByteArray) (r : ByteArray) (w : World) (h : strings_ReplaceAll.f a0 a1 a2 = some r) {q_ : Bool} (hG : GW q_ w) :
    Calls Tryd.prog 73 #[.string a0, .string a1, .string a2] w fun e w' => e = .returned (.string r) ∧ Below w.heap.size w w' := by
  unfold strings_ReplaceAll.f at h
  split at h
  · next hc =>
    obtain rfl := Option.some.inj h
    obtain ⟨m, hm⟩ := hG.max
    exact Tryd.strings_ReplaceAll a0 a1 a2 m w hc.1 hm hc.2.1 hc.2.2
  · cases h

/-! ### value_digits: function 74: by hand -/
def value_digits.f (a0 : Int) : Option (ByteArray) := if -9223372036854775808 ≤ a0 ∧ a0 ≤ 9223372036854775807 then some ⟨(Lib.itoa a0).toArray⟩ else none
set_option maxHeartbeats 8000000 in
set_option maxRecDepth 100000 in
theorem value_digits.calls (a0 : Int) (r : ByteArray) (w : World) (h : value_digits.f a0 = some r) {q_ : Bool} (hG : GW q_ w) :
    Calls Tryd.prog 74 #[.int .i64 a0] w fun e w' => e = .returned (.string r) ∧ Below w.heap.size w w' := by
  unfold value_digits.f at h
  split at h
  · next hc =>
    obtain rfl := Option.some.inj h
    have hc1 := hc.1
    have hc2 := hc.2
    have ht := hG.tab
    clear h hc
    have HT := Aside0.mk ht
    have H1 := Aside0.mk hc1
    have H2 := Aside0.mk hc2
    clear ht hG hc1 hc2
    go_enter Tryd.func74, Tryd.ntmps74
    go_wp2_with fail
    (with_reducible refine (Tryd.strconv_FormatInt_10 a0 H1.out H2.out _ HT.out).mono ?_)
    rintro e w' ⟨rfl, k, os, rfl⟩
    go_wp2_with fail
    go_ret
    exact ⟨rfl, Lib.below_grow _ _ (Nat.le_refl _) _ _⟩
  · cases h

end Go.Proofs.YtddmllocjocipaaDoor.D
