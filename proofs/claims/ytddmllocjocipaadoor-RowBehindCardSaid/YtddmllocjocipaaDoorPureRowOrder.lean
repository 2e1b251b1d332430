/- The laws RowOrder and RowBehind, over lists of values alone. Conditions: as each theorem states them (texts of no more than 140737488355328 bytes). -/
import Derived.Test.YtddmllocjocipaaDoorRowEx
import Derived.Test.YtddmllocjocipaaDoorDx22
namespace Go.Proofs.YtddmllocjocipaaDoor.D
open Go.RowKit Go.Proofs.YtddmllocjocipaaDoorW.PrintWords Go.Proofs.YtddmllocjocipaaDoorW.PrintLast Go.Proofs.YtddmllocjocipaaDoorW.PrintMore
set_option linter.unusedSimpArgs false
set_option linter.unusedVariables false
theorem RowBehind_pure (s a b : List S23) (hs : ∀ x ∈ s, x.f3.size ≤ 140737488355328) (ha : ∀ x ∈ a, x.f3.size ≤ 140737488355328) (hb : ∀ x ∈ b, x.f3.size ≤ 140737488355328) : covenantlaw05_RowBehind.f 100000 s a b = some true := by
  have out : covenantlaw05_RowBehind.j0 100000 s a b true = some true := by
    simp only [covenantlaw05_RowBehind.j0]
    rw [if_pos trivial, exam_spec 99999 (by omega)]
    rfl
  obtain ⟨p, hp, hp2⟩ := large_spec s hs 100000 (by omega)
  obtain ⟨q, hq, hq2⟩ := large_spec a ha 100000 (by omega)
  obtain ⟨r, hr, hr2⟩ := large_spec b hb 100000 (by omega)
  unfold covenantlaw05_RowBehind.f
  rw [exam_spec 100000 (by omega), Option.bind_some, if_pos rfl, hp, Option.bind_some]
  cases p with
  | true => rw [if_pos rfl]; exact out
  | false =>
    rw [if_neg (by decide), hq, Option.bind_some]
    cases q with
    | true => rw [if_pos rfl]; exact out
    | false =>
      rw [if_neg (by decide), hr, Option.bind_some]
      cases r with
      | true => exact out
      | false =>
        have ls := (hp2 rfl).1
        have la := (hq2 rfl).1
        have lb := (hr2 rfl).1
        have xa : (s ++ a).length = s.length + a.length := List.length_append
        have xb : (s ++ b).length = s.length + b.length := List.length_append
        simp only [covenantlaw05_RowBehind.j0, Option.bind_some, List.nil_append, List.length_nil, Nat.zero_add]
        rw [if_neg (by decide), if_pos (by omega), if_pos (by omega), if_pos (by omega), if_pos (by omega)]
        rw [compare_rows (s ++ a) (s ++ b) _ (by omega) (by omega), compare_rows a b _ (by omega) (by omega), same_spec (s ++ a) (s ++ b) _ (by omega) (by omega), same_spec a b _ (by omega) (by omega), compare_rows s (s ++ a) _ (by omega) (by omega)]
        simp only [Option.bind_some]
        rw [cmpRows_app, if_pos rfl, cmpRows_more]
        have e : decide (s ++ a = s ++ b) = decide (a = b) := decide_eq_decide.2 ⟨fun h => List.append_cancel_left h, fun h => by rw [h]⟩
        rw [e, if_pos (by simp)]
        cases a with
        | nil => rfl
        | cons x a => simp
end Go.Proofs.YtddmllocjocipaaDoor.D
