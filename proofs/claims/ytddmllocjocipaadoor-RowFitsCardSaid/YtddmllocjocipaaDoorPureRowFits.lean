/- The law RowFits, over lists of values and of columns alone. Conditions: as each theorem states them (texts of no more than 140737488355328 bytes). -/
import Derived.Test.YtddmllocjocipaaDoorRowEx
import Derived.Test.YtddmllocjocipaaDoorDx24
namespace Go.Proofs.YtddmllocjocipaaDoor.D
open Go.RowKit Go.Proofs.YtddmllocjocipaaDoorW.PrintWords Go.Proofs.YtddmllocjocipaaDoorW.PrintLast Go.Proofs.YtddmllocjocipaaDoorW.PrintMore
set_option linter.unusedSimpArgs false
set_option linter.unusedVariables false
theorem one_at {α : Type} (l : List α) (i : Nat) (hi : i < l.length) : (l.take (i + 1)).drop i = [l[i]] := by
  rw [List.take_succ_eq_append_getElem hi, List.drop_append, List.drop_of_length_le (by rw [List.length_take]; omega)]
  simp
  rw [Nat.min_eq_left (by omega)]
  simp
theorem fits_last (l : List S23) (cs : List S65) (hf : ∀ x ∈ l, FitV x) (hn : l.length < 20000) (m : Nat) (hm : 60000 ≤ m) (i : Nat) (h1 : ¬ (i < l.length ∧ i < cs.length)) (h2 : i ≤ l.length) :
    ((row_Fits.f m l cs).bind fun t656 => (if t656 = 0 then (if decide (FitsR (l.take i) (cs.take i)) = true then (some ((l.length : Int) == (cs.length : Int))) else (some false)) else (if t656 = 4 then (some ((l.length : Int) != (cs.length : Int))) else (if t656 = 60 then (if decide (FitsR (l.take i) (cs.take i)) = true then (some false) else (some ((l.length : Int) == (cs.length : Int)))) else (some false))))) = some true := by
  rw [row_fits l cs hf (by omega) m (by omega), Option.bind_some]
  by_cases e : l.length = cs.length
  · have ei : i = l.length := by omega
    rw [if_pos e, List.take_of_length_le (by omega), List.take_of_length_le (by omega)]
    by_cases r : FitsR l cs
    · rw [if_pos r, if_pos rfl, if_pos (decide_eq_true r)]
      simp [e]
    · rw [if_neg r, if_neg (by decide), if_neg (by decide), if_pos rfl, if_neg (by simpa using r)]
      simp [e]
  · rw [if_neg e, if_neg (by decide), if_pos rfl]
    congr 1
    rw [bne_iff_ne]
    omega
theorem fits_each (l : List S23) (cs : List S65) (hf : ∀ x ∈ l, FitV x) (hn : l.length < 20000) (hc : cs.length ≤ 1000) : ∀ (d k i : Nat), i + d = l.length → 2 * d + 60010 ≤ k →
    covenantlaw05_RowFits.l0 k l cs (decide (FitsR (l.take i) (cs.take i))) (i : Int) = some true
  | 0, k, i, h, hk => by
    obtain ⟨m, rfl, hm⟩ := fuel (k := k) (d := 60008) (by omega)
    obtain ⟨m, rfl, hm⟩ := fuel (k := m) (d := 60007) (by omega)
    simp only [covenantlaw05_RowFits.l0]
    rw [if_neg (by omega)]
    simp only [covenantlaw05_RowFits.j2]
    rw [if_neg (by decide)]
    exact fits_last l cs hf hn m (by omega) i (by omega) (by omega)
  | d + 1, k, i, h, hk => by
    obtain ⟨m, rfl, hm⟩ := fuel (k := k) (d := 2 * d + 60010) (by omega)
    obtain ⟨m, rfl, hm⟩ := fuel (k := m) (d := 2 * d + 60009) (by omega)
    have hi : i < l.length := by omega
    have hfx := hf _ (List.getElem_mem hi)
    simp only [covenantlaw05_RowFits.l0]
    rw [if_pos (by omega)]
    by_cases hi2 : i < cs.length
    · rw [decide_eq_true (show (i : Int) < (cs.length : Int) by omega)]
      simp only [covenantlaw05_RowFits.j2]
      rw [if_pos trivial, wrap_up (by omega), if_pos (by omega), if_pos (by omega), if_pos (by omega), if_pos (by omega)]
      have next := fits_each l cs hf hn hc d m (i + 1) (by omega) (by omega)
      rw [Int.toNat_natCast, Int.toNat_natCast, one_at l i hi, one_at cs i hi2, row_fits [l[i]] [cs[i]] (fun x hx => by have : x = l[i] := by simpa using hx
                                                                                                                        subst this; exact hfx) (by simp) m (by simp; omega), Option.bind_some]
      rw [if_pos (show ([l[i]] : List S23).length = ([cs[i]] : List S65).length from rfl), if_pos (by omega), if_pos (by omega), rdT_nat hi, rdC_nat hi2, fits_val _ _ hfx, Option.bind_some]
      have hone : FitsR [l[i]] [cs[i]] ↔ FitsV l[i] cs[i].f1 := ⟨fun h => h (l[i], cs[i]) (by simp), fun h p hp => by
        have : p = (l[i], cs[i]) := by simpa using hp
        subst this; exact h⟩
      have hstep : FitsR (l.take (i + 1)) (cs.take (i + 1)) ↔ FitsR (l.take i) (cs.take i) ∧ FitsV l[i] cs[i].f1 := by
        unfold FitsR
        rw [List.take_succ_eq_append_getElem hi, List.take_succ_eq_append_getElem hi2, List.zip_append (by rw [List.length_take, List.length_take]; omega)]
        constructor
        · intro h
          exact ⟨fun p hp => h p (List.mem_append_left _ hp), h (l[i], cs[i]) (List.mem_append_right _ (by simp))⟩
        · rintro ⟨h1, h2⟩ p hp
          rcases List.mem_append.1 hp with hp | hp
          · exact h1 p hp
          · have : p = (l[i], cs[i]) := by simpa using hp
            subst this; exact h2
      by_cases e : FitsV l[i] cs[i].f1
      · rw [if_pos (hone.2 e), decide_eq_true e, if_neg (by decide), if_pos rfl]
        by_cases r : FitsR (l.take i) (cs.take i)
        · rw [if_pos (decide_eq_true r)]
          rw [decide_eq_true (hstep.2 ⟨r, e⟩)] at next
          exact next
        · rw [if_neg (by simpa using r)]
          rw [decide_eq_false (fun h => r (hstep.1 h).1)] at next
          exact next
      · rw [if_neg (fun h => e (hone.1 h)), decide_eq_false e, if_neg (by decide), if_neg (by decide), if_pos rfl]
        rw [decide_eq_false (fun h => e (hstep.1 h).2)] at next
        by_cases r : FitsR (l.take i) (cs.take i)
        · rw [if_pos (decide_eq_true r)]; exact next
        · rw [if_neg (by simpa using r)]; exact next
    · rw [decide_eq_false (show ¬ (i : Int) < (cs.length : Int) by omega)]
      simp only [covenantlaw05_RowFits.j2]
      rw [if_neg (by decide)]
      exact fits_last l cs hf hn m (by omega) i (by omega) (by omega)
theorem RowFits_pure (l : List S23) (cs : List S65) (hf : ∀ x ∈ l, FitV x) (hl : ∀ x ∈ l, x.f3.size ≤ 140737488355328) : covenantlaw05_RowFits.f 200000 l cs = some true := by
  have out : covenantlaw05_RowFits.j0 200000 l cs true = some true := by
    simp only [covenantlaw05_RowFits.j0]
    rw [if_pos trivial, exam_spec 199999 (by omega)]
    rfl
  obtain ⟨p, hp, hp2⟩ := large_spec l hl 200000 (by omega)
  unfold covenantlaw05_RowFits.f
  rw [exam_spec 200000 (by omega), Option.bind_some, if_pos rfl, hp, Option.bind_some]
  cases p with
  | true => rw [if_pos rfl]; exact out
  | false =>
    rw [if_neg (by decide)]
    by_cases hc : (cs.length : Int) > 1000
    · rw [decide_eq_true hc]; exact out
    · rw [decide_eq_false hc]
      simp only [covenantlaw05_RowFits.j0]
      rw [if_neg (by decide)]
      have := fits_each l cs hf (hp2 rfl).1 (by omega) l.length 199999 0 (by omega) (by have := (hp2 rfl).1; omega)
      rw [List.take_zero, List.take_zero, decide_eq_true (show FitsR [] [] from fun p hp => by simp at hp)] at this
      exact this
end Go.Proofs.YtddmllocjocipaaDoor.D
