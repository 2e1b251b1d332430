/- The law ValueApart, over the values' parts alone. Conditions: as each theorem states them. -/
import Derived.Test.YtddmllocjocipaaDoorTxt
import Derived.Test.YtddmllocjocipaaDoorDx14
namespace Go.Proofs.YtddmllocjocipaaDoor.D
open Go.RowKit Go.Proofs.YtddmllocjocipaaDoorW.PrintWords Go.Proofs.YtddmllocjocipaaDoorW.PrintLast Go.Proofs.YtddmllocjocipaaDoorW.PrintMore
set_option linter.unusedSimpArgs false
set_option maxRecDepth 100000 in
theorem works_100' : covenantlaw01_works.f 100 = some true := by kernel_rfl
theorem works_spec' : ∀ (k : Nat), 100 ≤ k → covenantlaw01_works.f k = some true := by
  intro k hk
  obtain ⟨d, rfl⟩ : ∃ d, k = 100 + d := ⟨k - 100, by omega⟩
  clear hk
  induction d with
  | zero => exact works_100'
  | succ d ih => exact covenantlaw01_works.mono (100 + d) _ ih
theorem ValueApart_pure (x y : S23) (hx : FitV x) (hy : FitV y) : covenantlaw01_ValueApart.f 1000 x.f0 x.f1 x.f2 x.f3 y.f0 y.f1 y.f2 y.f3 = some true := by
  have b1 : -9223372036854775808 ≤ x.f1 ∧ x.f1 ≤ 9223372036854775807 := by simpa [Lit.wf, IntKind.min, IntKind.max, IntKind.signed, IntKind.bits] using hx.2.1
  have c1 : -9223372036854775808 ≤ y.f1 ∧ y.f1 ≤ 9223372036854775807 := by simpa [Lit.wf, IntKind.min, IntKind.max, IntKind.signed, IntKind.bits] using hy.2.1
  have out : covenantlaw01_ValueApart.j0 1000 true x.f0 x.f1 x.f2 x.f3 y.f0 y.f1 y.f2 y.f3 = some true := by
    simp only [covenantlaw01_ValueApart.j0]
    rw [if_pos trivial, works_spec' 999 (by omega)]
    rfl
  unfold covenantlaw01_ValueApart.f
  rw [works_spec' 1000 (by omega), Option.bind_some, if_pos rfl, may_spec _ _ _ _ b1.1 b1.2, may_spec _ _ _ _ c1.1 c1.2]
  simp only [Option.bind_some]
  split
  · exact out
  · by_cases hm : MayV x.f0 x.f1 x.f2 x.f3
    · rw [if_pos (by simpa using hm)]
      by_cases hn : MayV y.f0 y.f1 y.f2 y.f3
      · rw [show (!decide (MayV y.f0 y.f1 y.f2 y.f3)) = false by simpa using hn]
        simp only [covenantlaw01_ValueApart.j0]
        rw [if_neg (by simp), text_spec _ _ hx (by omega), text_spec _ _ hy (by omega)]
        simp only [Option.bind_some]
        congr 1
        rw [beq_iff_eq, Bool.eq_iff_iff]
        simp only [beq_iff_eq, Bool.and_eq_true, tl_eq]
        constructor
        · intro h
          have := text_inj hm hn (by simpa using h)
          subst this
          exact ⟨rfl, rfl, rfl, rfl⟩
        · rintro ⟨h0, h1, h2, h3⟩
          have : x = y := by
            obtain ⟨x0, x1, x2, x3⟩ := x
            obtain ⟨y0, y1, y2, y3⟩ := y
            have := ba_eq h3
            simp_all
          rw [this]
      · rw [show (!decide (MayV y.f0 y.f1 y.f2 y.f3)) = true by simpa using hn]
        exact out
    · rw [if_neg (by simpa using hm)]
      exact out
end Go.Proofs.YtddmllocjocipaaDoor.D
