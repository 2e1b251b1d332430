/- What the functions of package key come to, over lists alone: which columns may be, a row's key, what is set, whether two are the same. Conditions: as each theorem states them (few columns, enough rounds). -/
import Derived.Test.YtddmllocjocipaaDoorRow
import Derived.Test.YtddmllocjocipaaDoorDx25
import Derived.Test.YtddmllocjocipaaDoorDx26
namespace Go.Proofs.YtddmllocjocipaaDoor.D
open Go.RowKit Go.Proofs.YtddmllocjocipaaDoorW.PrintWords Go.Proofs.YtddmllocjocipaaDoorW.PrintLast Go.Proofs.YtddmllocjocipaaDoorW.PrintMore
set_option linter.unusedSimpArgs false
set_option linter.unusedVariables false
/-! ### slices.Contains -/
/-! ### key.May -/
def MayP (cols : List Int) (n : Int) : Prop := 0 < cols.length ∧ (cols.length : Int) ≤ n ∧ (∀ c ∈ cols, 0 ≤ c ∧ c < n) ∧ cols.Nodup
instance (cols : List Int) (n : Int) : Decidable (MayP cols n) := by unfold MayP; infer_instance
/-- From column i on. -/
def MayFrom (cols : List Int) (n : Int) (i : Nat) : Prop := ∀ j, (h : j < cols.length) → i ≤ j → 0 ≤ cols[j] ∧ cols[j] < n ∧ cols[j] ∉ cols.take j
instance (cols : List Int) (n : Int) (i : Nat) : Decidable (MayFrom cols n i) := by unfold MayFrom; infer_instance
/-! ### key.Of -/
/-! ### key.Set -/
/-! ### key.Same, key.Refers -/
theorem keySame_spec (xs ys : List S23) (k : Nat) (hn : xs.length < 1000000) (hk : xs.length < k) : key_Same.f k xs ys = some (wholeB xs && (wholeB ys && decide (xs = ys))) := by
  unfold key_Same.f key_Whole.f
  rw [Option.bind_some]
  cases hx : wholeB xs with
  | false => simp
  | true =>
    rw [if_pos rfl, Option.bind_some]
    cases hy : wholeB ys with
    | false => simp
    | true => rw [if_pos rfl, same_spec xs ys k hn hk]; simp
/-! ### long -/
theorem long_from (xs : List S23) (hn : xs.length < 1000000) : ∀ (d k i : Nat), i + d = xs.length → d < k → ∃ b, covenantlaw06_long.l0 k xs (i : Int) = some b
  | 0, k, i, h, hk => by
    obtain ⟨m, rfl, _⟩ := fuel hk
    simp only [covenantlaw06_long.l0]
    exact ⟨false, by rw [if_neg (by omega)]⟩
  | d + 1, k, i, h, hk => by
    obtain ⟨m, rfl, hm⟩ := fuel hk
    have hx : i < xs.length := by omega
    simp only [covenantlaw06_long.l0]
    rw [if_pos (by omega), if_pos (by omega)]
    split
    · exact ⟨true, rfl⟩
    · rw [wrap_up (by omega)]
      exact long_from xs hn d m (i + 1) (by omega) (by omega)
/-- Whether it is long; where not, it has at most 60 values. -/
theorem long_spec (xs : List S23) (k : Nat) (hk : 100 < k) : ∃ b, covenantlaw06_long.f k xs = some b ∧ (b = false → xs.length ≤ 60) := by
  unfold covenantlaw06_long.f
  by_cases h : (xs.length : Int) > 60
  · rw [if_pos h]; exact ⟨true, rfl, by simp⟩
  · rw [if_neg h]
    obtain ⟨b, hb⟩ := long_from xs (by omega) xs.length k 0 (by omega) (by omega)
    exact ⟨b, by simpa using hb, fun _ => by omega⟩
end Go.Proofs.YtddmllocjocipaaDoor.D
