/- The law RowApart, over lists of values alone. Conditions: as each theorem states them (texts of no more than 140737488355328 bytes). -/
import Derived.Test.YtddmllocjocipaaDoorRowEx
import Derived.Test.YtddmllocjocipaaDoorRowBk
import Derived.Test.YtddmllocjocipaaDoorDx23
namespace Go.Proofs.YtddmllocjocipaaDoor.D
open Go.RowKit Go.Proofs.YtddmllocjocipaaDoorW.PrintWords Go.Proofs.YtddmllocjocipaaDoorW.PrintLast Go.Proofs.YtddmllocjocipaaDoorW.PrintMore
set_option linter.unusedSimpArgs false
set_option linter.unusedVariables false
theorem textR_none {l : List S23} : textR l ≠ [] ↔ MayR l := by
  unfold textR
  by_cases h : MayR l
  · rw [if_pos h]; simp [h]
  · rw [if_neg h]; simp [h]
theorem textR_inj {a b : List S23} (ha : ∀ x ∈ a, FitV x) (hb : ∀ x ∈ b, FitV x) (ma : MayR a) (mb : MayR b) (h : textR a = textR b) : a = b := by
  have h1 := parse_textR a ha ma
  rw [h, parse_textR b hb mb] at h1
  exact (Prod.mk.inj h1).1.symm
theorem glue_snoc (l : List (List UInt8)) (p : List UInt8) : glue (l ++ [p]) = if l = [] then p else glue l ++ 44 :: 32 :: p := by
  induction l with
  | nil => rfl
  | cons q l ih =>
    rw [if_neg (by simp), List.cons_append]
    cases l with
    | nil => simp [glue]
    | cons r l =>
      rw [if_neg (by simp)] at ih
      rw [glue_cons (show r :: l ++ [p] ≠ [] by simp), ih, glue_cons (show r :: l ≠ [] by simp)]
      simp
theorem glue_len (l : List (List UInt8)) (n : Nat) (h : ∀ p ∈ l, p.length ≤ n) : (glue l).length ≤ l.length * (n + 2) := by
  rw [← join_glue]; exact join_len l n h
theorem apart_from (a b : List S23) (s t : ByteArray) (hf : ∀ x ∈ a, FitV x) (ma : MayR a) (hn : a.length < 20000) (he : (s.toList == t.toList) = decide (a = b)) (hs : s.data.toList = textR a) : ∀ (d k i : Nat) (all : ByteArray), i + d = a.length → d + 60000 ≤ k → all.data.toList = glue ((a.take i).map textV) →
    covenantlaw05_RowApart.l0 k a b s t all (i : Int) = some true
  | 0, k, i, all, h, hk, hall => by
    obtain ⟨m, rfl, hm⟩ := fuel (k := k) (d := 59999) (by omega)
    rw [List.take_of_length_le (by omega)] at hall
    have hl := glue_len (a.map textV) 600 (by
      intro p hp
      obtain ⟨x, hx, rfl⟩ := List.mem_map.1 hp
      exact textV_len (hf x hx) (ma x hx))
    rw [List.length_map, ← hall, size_list] at hl
    have h40 : (⟨#[40]⟩ : ByteArray).size = 1 := rfl
    simp only [covenantlaw05_RowApart.l0]
    rw [if_neg (by omega), same_spec a b m (by omega) (by omega), Option.bind_some, he, if_pos (by simp), if_pos (by omega), if_pos (by rw [ByteArray.size_append, h40]; omega)]
    congr 1
    rw [beq_iff_eq, tl_eq, tl_eq, hs]
    have e : textR a = 40 :: (glue (a.map textV) ++ [41]) := by unfold textR; rw [if_pos ma, join_glue]; rfl
    rw [e, ← hall]
    simp [ByteArray.data_append]
  | d + 1, k, i, all, h, hk, hall => by
    obtain ⟨m, rfl, hm⟩ := fuel (k := k) (d := d + 60000) (by omega)
    have hi : i < a.length := by omega
    have hfx := hf _ (List.getElem_mem hi)
    have hmx := ma _ (List.getElem_mem hi)
    have ht := textV_len hfx hmx
    have hl := glue_len ((a.take i).map textV) 600 (by
      intro p hp
      obtain ⟨x, hx, rfl⟩ := List.mem_map.1 hp
      exact textV_len (hf x (List.mem_of_mem_take hx)) (ma x (List.mem_of_mem_take hx)))
    rw [List.length_map, List.length_take, ← hall, size_list] at hl
    have hl2 : all.size ≤ 20000 * 602 := Nat.le_trans hl (Nat.mul_le_mul_right _ (by omega))
    have h2 : (⟨#[44, 32]⟩ : ByteArray).size = 2 := rfl
    have hsz : (⟨(textV a[i]).toArray⟩ : ByteArray).size = (textV a[i]).length := by simp [ByteArray.size]
    have hnext : glue ((a.take (i + 1)).map textV) = if i = 0 then textV a[i] else glue ((a.take i).map textV) ++ 44 :: 32 :: textV a[i] := by
      rw [List.take_succ_eq_append_getElem hi, List.map_append, List.map_cons, List.map_nil, glue_snoc]
      by_cases h0 : i = 0
      · rw [if_pos h0, if_pos (by subst h0; rfl)]
      · rw [if_neg h0, if_neg]
        intro e
        have e9 : ((a.take i).map textV).length = 0 := congrArg List.length e
        rw [List.length_map, List.length_take] at e9
        omega
    simp only [covenantlaw05_RowApart.l0]
    rw [if_pos (by omega)]
    by_cases h0 : i = 0
    · rw [if_neg (by omega), if_pos (by omega), rdT_nat hi, text_spec m _ hfx (by omega), Option.bind_some, if_pos (by rw [hsz]; omega), wrap_up (by omega)]
      refine apart_from a b s t hf ma hn he hs d m (i + 1) _ (by omega) (by omega) ?_
      rw [hnext, if_pos h0]
      subst h0
      have : all.data.toList = [] := hall
      rw [ByteArray.data_append, Array.toList_append, this]
      simp
    · rw [if_pos (by omega), if_pos (show all.size + 2 ≤ 9223372036854775807 by omega), if_pos (by omega), rdT_nat hi, text_spec m _ hfx (by omega), Option.bind_some, if_pos (by rw [ByteArray.size_append, h2, hsz]; omega), wrap_up (by omega)]
      refine apart_from a b s t hf ma hn he hs d m (i + 1) _ (by omega) (by omega) ?_
      rw [hnext, if_neg h0, ← hall]
      simp [ByteArray.data_append]
theorem RowApart_pure (a b : List S23) (ha : ∀ x ∈ a, FitV x) (hb : ∀ x ∈ b, FitV x) (za : ∀ x ∈ a, x.f3.size ≤ 140737488355328) (zb : ∀ x ∈ b, x.f3.size ≤ 140737488355328) : covenantlaw05_RowApart.f 200000 a b = some true := by
  have out : covenantlaw05_RowApart.j0 200000 a b true = some true := by
    simp only [covenantlaw05_RowApart.j0]
    rw [if_pos trivial, exam_spec 199999 (by omega)]
    rfl
  obtain ⟨p, hp, hp2⟩ := large_spec a za 200000 (by omega)
  obtain ⟨q, hq, hq2⟩ := large_spec b zb 200000 (by omega)
  unfold covenantlaw05_RowApart.f
  rw [exam_spec 200000 (by omega), Option.bind_some, if_pos rfl, hp, Option.bind_some]
  cases p with
  | true => rw [if_pos rfl]; exact out
  | false =>
    rw [if_neg (by decide), hq, Option.bind_some]
    cases q with
    | true => exact out
    | false =>
      have la := (hp2 rfl).1
      have lb := (hq2 rfl).1
      simp only [covenantlaw05_RowApart.j0]
      rw [if_neg (by decide), row_text a ha la _ (by omega), Option.bind_some, row_text b hb lb _ (by omega), Option.bind_some, tl_eq, tl_eq]
      have yes : covenantlaw05_RowApart.j1 199999 a b ⟨(textR a).toArray⟩ ⟨(textR b).toArray⟩ true = some true := by
        simp only [covenantlaw05_RowApart.j1]
        rw [if_pos trivial]
      show (if textR a = [] then _ else _) = _
      by_cases ma : MayR a
      · rw [if_neg (textR_none.2 ma)]
        show covenantlaw05_RowApart.j1 199999 a b _ _ (textR b == []) = _
        by_cases mb : MayR b
        · have : (textR b == []) = false := by
            rw [beq_eq_false_iff_ne]; exact textR_none.2 mb
          rw [this]
          simp only [covenantlaw05_RowApart.j1]
          rw [if_neg (by decide)]
          have he : ((⟨(textR a).toArray⟩ : ByteArray).toList == (⟨(textR b).toArray⟩ : ByteArray).toList) = decide (a = b) := by
            rw [tl_eq, tl_eq, Bool.eq_iff_iff, beq_iff_eq, decide_eq_true_eq]
            exact ⟨fun h => textR_inj ha hb ma mb h, fun h => by rw [h]⟩
          exact apart_from a b _ _ ha ma la he (by simp) a.length 199998 0 ⟨#[]⟩ (by omega) (by omega) rfl
        · have : (textR b == []) = true := by
            rw [beq_iff_eq]
            exact Classical.byContradiction fun h => mb (textR_none.1 h)
          rw [this]; exact yes
      · rw [if_pos (Classical.byContradiction fun h => ma (textR_none.1 h))]; exact yes
end Go.Proofs.YtddmllocjocipaaDoor.D
