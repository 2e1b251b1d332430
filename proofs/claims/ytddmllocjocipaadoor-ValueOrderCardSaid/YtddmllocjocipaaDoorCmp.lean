/- Which of two values stands ahead. Conditions: as each theorem states them (enough rounds). -/
import Derived.Test.YtddmllocjocipaaDoorMay
import Derived.Test.YtddmllocjocipaaDoorDx3
import Derived.Lib.Bytealg
namespace Go.Proofs.YtddmllocjocipaaDoor.D
open Go.RowKit Go.Proofs.YtddmllocjocipaaDoorW.PrintWords Go.Proofs.YtddmllocjocipaaDoorW.PrintLast Go.Proofs.YtddmllocjocipaaDoorW.PrintMore
set_option linter.unusedSimpArgs false
set_option linter.unusedVariables false
def sgn (a b : Int) : Int := if a < b then -1 else if a > b then 1 else 0
theorem sgn_zero {a b : Int} : sgn a b = 0 ↔ a = b := by unfold sgn; split <;> (try split) <;> omega
theorem cmp8 (a b : Int) : cmp_Compare_uint8.f a b = some (sgn a b) := by
  unfold cmp_Compare_uint8.f cmp_isNaN_uint8.f sgn
  have h (x : Int) : (x != x) = false := by simp
  simp only [h, Option.bind_some]
  rw [if_neg (by decide), if_neg (by decide)]
  split
  · rfl
  · split <;> rfl
theorem cmp64 (a b : Int) : cmp_Compare_int64.f a b = some (sgn a b) := by
  unfold cmp_Compare_int64.f cmp_isNaN_int64.f sgn
  have h (x : Int) : (x != x) = false := by simp
  simp only [h, Option.bind_some]
  rw [if_neg (by decide), if_neg (by decide)]
  split
  · rfl
  · split <;> rfl
theorem first4 (k : Nat) (a b c d : Int) (hk : 5 ≤ k) : value_first_int.f k [a, b, c, d] = some (if a ≠ 0 then a else if b ≠ 0 then b else if c ≠ 0 then c else d) := by
  obtain ⟨m, rfl⟩ : ∃ m, k = m + 5 := ⟨k - 5, by omega⟩
  unfold value_first_int.f
  by_cases h1 : a = 0
  · by_cases h2 : b = 0
    · by_cases h3 : c = 0
      · by_cases h4 : d = 0
        · simp [value_first_int.l0, rd, wrap64, h1, h2, h3, h4]
        · simp [value_first_int.l0, rd, wrap64, h1, h2, h3, h4]
      · simp [value_first_int.l0, rd, wrap64, h1, h2, h3]
    · simp [value_first_int.l0, rd, wrap64, h1, h2]
  · simp [value_first_int.l0, rd, wrap64, h1]
def cmpV (x y : S23) : Int := if sgn x.f0 y.f0 ≠ 0 then sgn x.f0 y.f0 else if sgn x.f1 y.f1 ≠ 0 then sgn x.f1 y.f1 else if sgn x.f2 y.f2 ≠ 0 then sgn x.f2 y.f2 else Lib.compareBytes x.f3.data.toList y.f3.data.toList
theorem compare_spec (k : Nat) (x y : S23) (hk : 5 ≤ k) : value_Compare.f k x.f0 x.f1 x.f2 x.f3 y.f0 y.f1 y.f2 y.f3 = some (cmpV x y) := by
  unfold value_Compare.f strings_Compare.f cmpV
  simp only [cmp8, cmp64, Option.bind_some]
  rw [first4 _ _ _ _ _ hk]
  rfl
end Go.Proofs.YtddmllocjocipaaDoor.D
