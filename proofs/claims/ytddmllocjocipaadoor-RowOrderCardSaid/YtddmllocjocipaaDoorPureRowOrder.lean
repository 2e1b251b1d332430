/- The laws RowOrder and RowBehind, over lists of values alone. Conditions: as each theorem states them (texts of no more than 140737488355328 bytes). -/
import Derived.Test.YtddmllocjocipaaDoorRowEx
import Derived.Test.YtddmllocjocipaaDoorDx22
namespace Go.Proofs.YtddmllocjocipaaDoor.D
open Go.RowKit Go.Proofs.YtddmllocjocipaaDoorW.PrintWords Go.Proofs.YtddmllocjocipaaDoorW.PrintLast Go.Proofs.YtddmllocjocipaaDoorW.PrintMore
set_option linter.unusedSimpArgs false
set_option linter.unusedVariables false
theorem RowOrder_pure (a b c : List S23) (ha : ∀ x ∈ a, x.f3.size ≤ 140737488355328) (hb : ∀ x ∈ b, x.f3.size ≤ 140737488355328) (hc : ∀ x ∈ c, x.f3.size ≤ 140737488355328) : covenantlaw05_RowOrder.f 30000 a b c = some true := by
  have out : covenantlaw05_RowOrder.j0 30000 a b c true = some true := by
    simp only [covenantlaw05_RowOrder.j0]
    rw [if_pos trivial, exam_spec 29999 (by omega)]
    rfl
  obtain ⟨p, hp, hp2⟩ := large_spec a ha 30000 (by omega)
  obtain ⟨q, hq, hq2⟩ := large_spec b hb 30000 (by omega)
  obtain ⟨r, hr, hr2⟩ := large_spec c hc 30000 (by omega)
  unfold covenantlaw05_RowOrder.f
  rw [exam_spec 30000 (by omega), Option.bind_some, if_pos rfl, hp, Option.bind_some]
  cases p with
  | true => rw [if_pos rfl]; exact out
  | false =>
    rw [if_neg (by decide), hq, Option.bind_some]
    cases q with
    | true => rw [if_pos rfl]; exact out
    | false =>
      rw [if_neg (by decide), hr, Option.bind_some]
      cases r with
      | true => exact out
      | false =>
        have la := (hp2 rfl).1
        have lb := (hq2 rfl).1
        have lc := (hr2 rfl).1
        simp only [covenantlaw05_RowOrder.j0]
        rw [if_neg (by decide), compare_rows a b _ (by omega) (by omega), compare_rows b c _ (by omega) (by omega), compare_rows a c _ (by omega) (by omega), compare_rows b a _ (by omega) (by omega)]
        simp only [Option.bind_some]
        rw [same_spec a b _ (by omega) (by omega), same_spec a a _ (by omega) (by omega)]
        simp only [Option.bind_some]
        have o := cmpRows_ord
        have x1 := o.rng a b
        have y1 := o.rng b c
        have z1 := o.rng a c
        have e1 := o.eq a b
        have e2 := o.eq b c
        have an := o.anti a b
        have t1 := o.tr a b c
        have w1 : wrap64 (-cmpRows b a) = cmpRows a b := by rw [an]; unfold wrap64; omega
        have s1 : (cmpRows a b == 0) = decide (a = b) := by
          rw [Bool.eq_iff_iff, beq_iff_eq, decide_eq_true_eq]; exact e1
        have k1 : cmpRows a b = 0 → cmpRows a c = cmpRows b c := fun h => by rw [e1.1 h]
        have k2 : cmpRows b c = 0 → cmpRows a c = cmpRows a b := fun h => by rw [← e2.1 h]
        rw [w1, if_pos rfl, s1, if_neg (by omega), if_neg (by omega), if_neg (by simp), if_pos (by simp)]
        revert x1 y1 z1 k1 k2 t1
        generalize cmpRows a b = x
        generalize cmpRows b c = y
        generalize cmpRows a c = z
        intro x1 y1 z1 k1 k2 t1
        rcases x1 with rfl | rfl | rfl <;> rcases y1 with rfl | rfl | rfl <;> rcases z1 with rfl | rfl | rfl <;> first
          | rfl
          | exact absurd (t1 rfl rfl) (by decide)
          | (exfalso; have h9 := k1 rfl; omega)
          | (exfalso; have h9 := k2 rfl; omega)
end Go.Proofs.YtddmllocjocipaaDoor.D
