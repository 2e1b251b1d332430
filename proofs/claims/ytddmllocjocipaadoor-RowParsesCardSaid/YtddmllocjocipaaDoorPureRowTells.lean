/- The document's answers for rows are the program's; the law RowTells, over lists alone. Conditions: as each theorem states them (texts of no more than 140737488355328 bytes). -/
import Derived.Test.YtddmllocjocipaaDoorRef
import Derived.Test.YtddmllocjocipaaDoorRow
namespace Go.Proofs.YtddmllocjocipaaDoor.D
open Go.RowKit Go.Proofs.YtddmllocjocipaaDoorW.PrintWords Go.Proofs.YtddmllocjocipaaDoorW.PrintLast Go.Proofs.YtddmllocjocipaaDoorW.PrintMore
set_option linter.unusedSimpArgs false
set_option linter.unusedVariables false
theorem join_snoc (l : List (List UInt8)) (p : List UInt8) : Lib.join (l ++ [p]) [44, 32] = if l = [] then p else Lib.join l [44, 32] ++ 44 :: 32 :: p := by
  induction l with
  | nil => simp [Lib.join]
  | cons q l ih =>
    rw [if_neg (by simp), List.cons_append]
    cases l with
    | nil => rw [List.nil_append, join_cons2]; simp [Lib.join]
    | cons r l =>
      rw [if_neg (by simp), List.cons_append] at ih
      rw [List.cons_append, join_cons2, ih, join_cons2]
      simp
theorem ref_text_from5 (l : List S23) (hf : ∀ x ∈ l, FitV x) (hn : l.length < 20000) : ∀ (d k i : Nat) (out : ByteArray), i + d = l.length → d + 500 < k → out.data.toList = 40 :: Lib.join ((l.take i).map textV) [44, 32] → MayR (l.take i) →
    covenantref05_Text.l0 k l out (i : Int) = some ⟨(textR l).toArray⟩
  | 0, k, i, out, h, hk, ho, hm => by
    obtain ⟨m, rfl, _⟩ := fuel (k := k) (d := 0) (by omega)
    simp only [covenantref05_Text.l0]
    rw [List.take_of_length_le (by omega)] at ho hm
    have hl := join_len (l.map textV) 600 (by
      intro p hp
      obtain ⟨x, hx, rfl⟩ := List.mem_map.1 hp
      exact textV_len (hf x hx) (hm x hx))
    rw [List.length_map] at hl
    have hos : out.size = (Lib.join (l.map textV) [44, 32]).length + 1 := by
      have := congrArg List.length ho
      rw [List.length_cons] at this
      rw [← this]; simp
    rw [if_neg (by omega), if_pos (by omega)]
    congr 1
    apply ba_eq
    unfold textR
    rw [if_pos hm]
    simp [ByteArray.data_append, ho]
  | d + 1, k, i, out, h, hk, ho, hm => by
    obtain ⟨m, rfl, hm2⟩ := fuel (k := k) (d := d + 501) (by omega)
    obtain ⟨m, rfl, hm2⟩ := fuel (k := m) (d := d + 500) (by omega)
    have hi : i < l.length := by omega
    have hfx := hf _ (List.getElem_mem hi)
    have hl := join_len ((l.take i).map textV) 600 (by
      intro p hp
      obtain ⟨x, hx, rfl⟩ := List.mem_map.1 hp
      exact textV_len (hf x (List.mem_of_mem_take hx)) (hm x hx))
    rw [List.length_map, List.length_take] at hl
    have hl2 : (Lib.join ((l.take i).map textV) [44, 32]).length ≤ 20000 * 602 := Nat.le_trans hl (Nat.mul_le_mul_right _ (by omega))
    have hos : out.size = (Lib.join ((l.take i).map textV) [44, 32]).length + 1 := by
      have := congrArg List.length ho
      rw [List.length_cons] at this
      rw [← this]; simp
    simp only [covenantref05_Text.l0]
    rw [if_pos (by omega), if_pos (by omega), rdT_nat hi, ref_may_spec, Option.bind_some]
    by_cases hx : MayV l[i].f0 l[i].f1 l[i].f2 l[i].f3
    · have ht := textV_len hfx hx
      have hsz : (⟨(textV l[i]).toArray⟩ : ByteArray).size = (textV l[i]).length := by simp [ByteArray.size]
      have h2 : (⟨#[44, 32]⟩ : ByteArray).size = 2 := rfl
      have hm' : MayR (l.take (i + 1)) := by
        rw [List.take_succ_eq_append_getElem hi]
        intro x hx2
        rcases List.mem_append.1 hx2 with h | h
        · exact hm x h
        · have : x = l[i] := by simpa using h
          subst this; exact hx
      have hnext : Lib.join ((l.take (i + 1)).map textV) [44, 32] = if i = 0 then textV l[i] else Lib.join ((l.take i).map textV) [44, 32] ++ 44 :: 32 :: textV l[i] := by
        rw [List.take_succ_eq_append_getElem hi, List.map_append, List.map_cons, List.map_nil, join_snoc]
        by_cases h0 : i = 0
        · rw [if_pos h0, if_pos (by subst h0; rfl)]
        · rw [if_neg h0, if_neg]
          intro e
          have e9 : ((l.take i).map textV).length = 0 := congrArg List.length e
          rw [List.length_map, List.length_take] at e9
          omega
      rw [if_pos (decide_eq_true hx)]
      by_cases h0 : i = 0
      · rw [if_neg (by omega), ref_text_spec _ _ hfx (by omega), Option.bind_some, if_pos (by rw [hsz]; omega), wrap_up (by omega)]
        refine ref_text_from5 l hf hn d (m + 1) (i + 1) _ (by omega) (by omega) ?_ hm'
        rw [hnext, if_pos h0, ByteArray.data_append, Array.toList_append, ho]
        subst h0
        simp [Lib.join]
      · rw [if_pos (by omega), if_pos (by omega), ref_text_spec _ _ hfx (by omega), Option.bind_some, if_pos (by rw [ByteArray.size_append, h2, hsz]; omega), wrap_up (by omega)]
        refine ref_text_from5 l hf hn d (m + 1) (i + 1) _ (by omega) (by omega) ?_ hm'
        rw [hnext, if_neg h0]
        simp [ByteArray.data_append, ho]
    · rw [if_neg (by simpa using hx)]
      congr 1
      unfold textR
      rw [if_neg (fun h => hx (h _ (List.getElem_mem hi)))]
theorem ref_text (l : List S23) (hf : ∀ x ∈ l, FitV x) (hn : l.length < 20000) (k : Nat) (hk : l.length + 500 < k) : covenantref05_Text.f k l = some ⟨(textR l).toArray⟩ := by
  unfold covenantref05_Text.f
  exact ref_text_from5 l hf hn l.length k 0 _ (by omega) hk rfl (fun x hx => by cases hx)
end Go.Proofs.YtddmllocjocipaaDoor.D
