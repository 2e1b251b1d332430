/- The law ValueFits, over a value's parts alone; and the examples that each law of the layer asks first. Conditions: as each theorem states them. -/
import Derived.Test.YtddmllocjocipaaDoorMay
import Derived.Test.YtddmllocjocipaaDoorDx16
namespace Go.Proofs.YtddmllocjocipaaDoor.D
open Go.RowKit Go.Proofs.YtddmllocjocipaaDoorW.PrintWords Go.Proofs.YtddmllocjocipaaDoorW.PrintLast Go.Proofs.YtddmllocjocipaaDoorW.PrintMore
set_option linter.unusedSimpArgs false
set_option maxRecDepth 100000 in
theorem works_100 : covenantlaw01_works.f 100 = some true := by kernel_rfl
theorem works_spec : ∀ (k : Nat), 100 ≤ k → covenantlaw01_works.f k = some true := by
  intro k hk
  obtain ⟨d, rfl⟩ : ∃ d, k = 100 + d := ⟨k - 100, by omega⟩
  clear hk
  induction d with
  | zero => exact works_100
  | succ d ih => exact covenantlaw01_works.mono (100 + d) _ ih
def FitsV (a b c : Int) (s : ByteArray) (t : Int) : Prop := 1 ≤ t ∧ t ≤ 4 ∧ MayV a b c s ∧ (a = 0 ∨ a = t)
instance (a b c : Int) (s : ByteArray) (t : Int) : Decidable (FitsV a b c s t) := by unfold FitsV; infer_instance
theorem fits_val (a b c : Int) (s : ByteArray) (t : Int) (h0 : -9223372036854775808 ≤ b) (h1 : b ≤ 9223372036854775807) : value_Fits.f a b c s t = some (decide (FitsV a b c s t)) := by
  unfold value_Fits.f FitsV
  rw [may_spec _ _ _ _ h0 h1, Option.bind_some]
  by_cases q1 : 1 ≤ t
  · by_cases q2 : t ≤ 4
    · by_cases q3 : MayV a b c s
      · by_cases q4 : a = 0
        · subst q4; simp [q1, q2, q3]
        · by_cases q5 : a = t
          · subst q5; simp [q1, q2, q3]
          · simp [q1, q2, q3, q4, q5]
      · simp [q1, q2, q3]
    · simp [q1, q2]
  · simp [q1]
theorem fits_loop (a b c : Int) (s : ByteArray) (h0 : -9223372036854775808 ≤ b) (h1 : b ≤ 9223372036854775807) (ha : 0 ≤ a ∧ a ≤ 255) : ∀ (d k i : Nat), i + d = 256 → d + 1 ≤ k → covenantlaw01_ValueFits.l0 k (i : Int) a b c s = some true
  | 0, k, i, h, hk => by
    obtain ⟨m, rfl⟩ : ∃ m, k = m + 1 := ⟨k - 1, by omega⟩
    simp only [covenantlaw01_ValueFits.l0]
    rw [if_neg (by omega)]
  | d + 1, k, i, h, hk => by
    obtain ⟨m, rfl⟩ : ∃ m, k = m + 1 := ⟨k - 1, by omega⟩
    have hn := fits_loop a b c s h0 h1 ha d m (i + 1) (by omega) (by omega)
    have e1 : wrap64 ((i : Int) + 1) = ((i + 1 : Nat) : Int) := by unfold wrap64; omega
    have e2 : ((i : Int)) % 256 = (i : Int) := by omega
    have e3 : wrap64 a = a := by unfold wrap64; omega
    simp only [covenantlaw01_ValueFits.l0]
    rw [if_pos (by omega), e1, e2, e3, may_spec _ _ _ _ h0 h1, fits_val _ _ _ _ _ h0 h1]
    simp only [Option.bind_some, hn]
    unfold FitsV
    by_cases q3 : MayV a b c s
    · by_cases q1 : 1 ≤ (i : Int)
      · by_cases q2 : (i : Int) ≤ 4
        · by_cases q4 : a = 0
          · subst q4; simp [q1, q2, q3]
          · by_cases q5 : a = (i : Int)
            · subst q5; simp [q1, q2, q3, q4]
            · simp [q1, q2, q3, q4, q5]
        · simp [q1, q2, q3]
      · simp [q1, q3]
    · simp [q3]
theorem ValueFits_pure (x : S23) (hf : FitV x) : covenantlaw01_ValueFits.f 1000 x.f0 x.f1 x.f2 x.f3 = some true := by
  have b1 : -9223372036854775808 ≤ x.f1 ∧ x.f1 ≤ 9223372036854775807 := by simpa [Lit.wf, IntKind.min, IntKind.max, IntKind.signed, IntKind.bits] using hf.2.1
  have b0 : 0 ≤ x.f0 ∧ x.f0 ≤ 255 := by simpa [Lit.wf, IntKind.min, IntKind.max, IntKind.signed, IntKind.bits] using hf.1
  unfold covenantlaw01_ValueFits.f
  rw [works_spec 1000 (by omega), Option.bind_some, if_pos rfl]
  simp only [covenantlaw01_ValueFits.j0]
  split
  · rw [works_spec 999 (by omega)]; rfl
  · exact fits_loop x.f0 x.f1 x.f2 x.f3 b1.1 b1.2 b0 256 999 0 (by omega) (by omega)
end Go.Proofs.YtddmllocjocipaaDoor.D
