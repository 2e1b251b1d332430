/- The law ValueOrder, over the values' parts alone. Conditions: none. -/
import Derived.Test.YtddmllocjocipaaDoorOrd
import Derived.Test.YtddmllocjocipaaDoorDx41
namespace Go.Proofs.YtddmllocjocipaaDoor.D
open Go.RowKit Go.Proofs.YtddmllocjocipaaDoorW.PrintWords Go.Proofs.YtddmllocjocipaaDoorW.PrintLast Go.Proofs.YtddmllocjocipaaDoorW.PrintMore
set_option linter.unusedSimpArgs false
set_option linter.unusedVariables false
set_option maxRecDepth 100000 in
theorem works_100o : covenantlaw01_works.f 100 = some true := by kernel_rfl
theorem works_speco : ∀ (k : Nat), 100 ≤ k → covenantlaw01_works.f k = some true := by
  intro k hk
  obtain ⟨d, rfl⟩ : ∃ d, k = 100 + d := ⟨k - 100, by omega⟩
  clear hk
  induction d with
  | zero => exact works_100o
  | succ d ih => exact covenantlaw01_works.mono (100 + d) _ ih
theorem parts_beq (x y : S23) : (x.f0 == y.f0 && (x.f1 == y.f1 && (x.f2 == y.f2 && (x.f3.toList == y.f3.toList)))) = (cmpV x y == 0) := by
  rw [Bool.eq_iff_iff, beq_iff_eq, cmpV_ord.eq]
  simp only [Bool.and_eq_true, beq_iff_eq, tl_eq]
  exact ⟨fun h => s23_ext h.1 h.2.1 h.2.2.1 (ba_eq h.2.2.2), fun h => by rw [h]; exact ⟨rfl, rfl, rfl, rfl⟩⟩
theorem ValueOrder_pure (p q r : S23) : vOrder.f 1000 p.f0 p.f1 p.f2 p.f3 q.f0 q.f1 q.f2 q.f3 r.f0 r.f1 r.f2 r.f3 = some true := by
  have out : vOrder.j0 1000 true p.f0 p.f1 p.f2 p.f3 q.f0 q.f1 q.f2 q.f3 r.f0 r.f1 r.f2 r.f3 = some true := by
    rw [vOrder.j0, if_pos rfl, works_speco 999 (by omega)]
    rfl
  have go : vOrder.j0 1000 false p.f0 p.f1 p.f2 p.f3 q.f0 q.f1 q.f2 q.f3 r.f0 r.f1 r.f2 r.f3 = some true := by
    have o := cmpV_ord
    have x1 := o.rng p q
    have y1 := o.rng q r
    have z1 := o.rng p r
    have e1 := o.eq p q
    have e2 := o.eq q r
    have an := o.anti p q
    have t1 := o.tr p q r
    have w1 : wrap64 (-cmpV q p) = cmpV p q := by rw [an]; unfold wrap64; omega
    have k1 : cmpV p q = 0 → cmpV p r = cmpV q r := fun h => by rw [e1.1 h]
    have k2 : cmpV q r = 0 → cmpV p r = cmpV p q := fun h => by rw [← e2.1 h]
    rw [vOrder.j0, if_neg (by decide), compare_spec 999 p q (by omega), Option.bind_some, compare_spec 999 q r (by omega), Option.bind_some, compare_spec 999 p r (by omega), Option.bind_some, compare_spec 999 q p (by omega), Option.bind_some, w1, if_pos rfl, if_neg (by omega), if_neg (by omega), parts_beq, if_neg (by simp), compare_spec 999 p p (by omega), Option.bind_some, if_pos ((o.eq p p).2 rfl)]
    revert x1 y1 z1 k1 k2 t1
    generalize cmpV p q = x
    generalize cmpV q r = y
    generalize cmpV p r = z
    intro x1 y1 z1 k1 k2 t1
    rcases x1 with rfl | rfl | rfl <;> rcases y1 with rfl | rfl | rfl <;> rcases z1 with rfl | rfl | rfl <;> first
      | rfl
      | exact absurd (t1 rfl rfl) (by decide)
      | (exfalso; have h9 := k1 rfl; omega)
      | (exfalso; have h9 := k2 rfl; omega)
  unfold vOrder.f
  rw [works_speco 1000 (by omega), Option.bind_some, if_pos rfl]
  cases decide ((wrap64 ((wrap64 ((p.f3.size : Int) + (q.f3.size : Int))) + (r.f3.size : Int))) > 20000) with
  | true => exact out
  | false => exact go
end Go.Proofs.YtddmllocjocipaaDoor.D
