/- The document's answers for rows are the program's; the law RowTells, over lists alone. Conditions: as each theorem states them (texts of no more than 140737488355328 bytes). -/
import Derived.Test.YtddmllocjocipaaDoorRef
import Derived.Test.YtddmllocjocipaaDoorRow
namespace Go.Proofs.YtddmllocjocipaaDoor.D
open Go.RowKit Go.Proofs.YtddmllocjocipaaDoorW.PrintWords Go.Proofs.YtddmllocjocipaaDoorW.PrintLast Go.Proofs.YtddmllocjocipaaDoorW.PrintMore
set_option linter.unusedSimpArgs false
set_option linter.unusedVariables false
theorem ref_fits_from (l : List S23) (cs : List S65) (hf : ∀ x ∈ l, FitV x) (hl : l.length = cs.length) (hn : l.length < 1000000) : ∀ (d k i : Nat), i + d = l.length → d + 2 < k →
    covenantref05_Fits.l0 k l cs (i : Int) = some (if FitsR (l.drop i) (cs.drop i) then 0 else 60)
  | 0, k, i, h, hk => by
    obtain ⟨m, rfl, _⟩ := fuel (k := k) (d := 0) (by omega)
    simp only [covenantref05_Fits.l0]
    rw [if_neg (by omega), List.drop_of_length_le (by omega), if_pos (show FitsR [] (cs.drop i) from fun p hp => by simp at hp)]
  | d + 1, k, i, h, hk => by
    obtain ⟨m, rfl, hm⟩ := fuel (k := k) (d := d + 1) (by omega)
    obtain ⟨m, rfl, hm⟩ := fuel (k := m) (d := d) (by omega)
    have hi : i < l.length := by omega
    have hi2 : i < cs.length := by omega
    have hfx := hf _ (List.getElem_mem hi)
    have r := rangeV hfx
    simp only [covenantref05_Fits.l0]
    rw [if_pos (by omega), if_pos (by omega), if_pos (by omega), rdT_nat hi, rdC_nat hi2, fits_spec _ _ _ _ _ _ r.1 r.2, fits_val _ _ hfx, Option.bind_some, wrap_up (by omega), List.drop_eq_getElem_cons hi, List.drop_eq_getElem_cons hi2]
    by_cases e : FitsV l[i] cs[i].f1
    · rw [if_pos (decide_eq_true e)]
      refine (ref_fits_from l cs hf hl hn d (m + 1) (i + 1) (by omega) (by omega)).trans ?_
      congr 1
      by_cases r : FitsR (l.drop (i + 1)) (cs.drop (i + 1))
      · rw [if_pos r, if_pos]
        intro p hp
        rw [List.zip_cons_cons] at hp
        rcases List.mem_cons.1 hp with rfl | hp
        · exact e
        · exact r p hp
      · rw [if_neg r, if_neg]
        intro hc
        exact r (fun p hp => hc p (by rw [List.zip_cons_cons]; exact List.mem_cons_of_mem _ hp))
    · rw [if_neg (by simpa using e), if_neg]
      intro hc
      exact e (hc (l[i], cs[i]) (by rw [List.zip_cons_cons]; exact List.mem_cons_self))
theorem ref_fits (l : List S23) (cs : List S65) (hf : ∀ x ∈ l, FitV x) (hn : l.length < 1000000) (k : Nat) (hk : l.length + 2 < k) : covenantref05_Fits.f k l cs = row_Fits.f k l cs := by
  rw [row_fits l cs hf hn k (by omega)]
  unfold covenantref05_Fits.f
  by_cases h : l.length = cs.length
  · rw [if_pos (by omega), if_pos h, show (0 : Int) = ((0 : Nat) : Int) from rfl, ref_fits_from l cs hf h hn l.length k 0 (by omega) hk, List.drop_zero, List.drop_zero]
    rfl
  · rw [if_neg (by omega), if_neg h]
theorem join_snoc (l : List (List UInt8)) (p : List UInt8) : Lib.join (l ++ [p]) [44, 32] = if l = [] then p else Lib.join l [44, 32] ++ 44 :: 32 :: p := by
  induction l with
  | nil => simp [Lib.join]
  | cons q l ih =>
    rw [if_neg (by simp), List.cons_append]
    cases l with
    | nil => rw [List.nil_append, join_cons2]; simp [Lib.join]
    | cons r l =>
      rw [if_neg (by simp), List.cons_append] at ih
      rw [List.cons_append, join_cons2, ih, join_cons2]
      simp
theorem ref_text_from5 (l : List S23) (hf : ∀ x ∈ l, FitV x) (hn : l.length < 20000) : ∀ (d k i : Nat) (out : ByteArray), i + d = l.length → d + 500 < k → out.data.toList = 40 :: Lib.join ((l.take i).map textV) [44, 32] → MayR (l.take i) →
    covenantref05_Text.l0 k l out (i : Int) = some ⟨(textR l).toArray⟩
  | 0, k, i, out, h, hk, ho, hm => by
    obtain ⟨m, rfl, _⟩ := fuel (k := k) (d := 0) (by omega)
    simp only [covenantref05_Text.l0]
    rw [List.take_of_length_le (by omega)] at ho hm
    have hl := join_len (l.map textV) 600 (by
      intro p hp
      obtain ⟨x, hx, rfl⟩ := List.mem_map.1 hp
      exact textV_len (hf x hx) (hm x hx))
    rw [List.length_map] at hl
    have hos : out.size = (Lib.join (l.map textV) [44, 32]).length + 1 := by
      have := congrArg List.length ho
      rw [List.length_cons] at this
      rw [← this]; simp
    rw [if_neg (by omega), if_pos (by omega)]
    congr 1
    apply ba_eq
    unfold textR
    rw [if_pos hm]
    simp [ByteArray.data_append, ho]
  | d + 1, k, i, out, h, hk, ho, hm => by
    obtain ⟨m, rfl, hm2⟩ := fuel (k := k) (d := d + 501) (by omega)
    obtain ⟨m, rfl, hm2⟩ := fuel (k := m) (d := d + 500) (by omega)
    have hi : i < l.length := by omega
    have hfx := hf _ (List.getElem_mem hi)
    have hl := join_len ((l.take i).map textV) 600 (by
      intro p hp
      obtain ⟨x, hx, rfl⟩ := List.mem_map.1 hp
      exact textV_len (hf x (List.mem_of_mem_take hx)) (hm x hx))
    rw [List.length_map, List.length_take] at hl
    have hl2 : (Lib.join ((l.take i).map textV) [44, 32]).length ≤ 20000 * 602 := Nat.le_trans hl (Nat.mul_le_mul_right _ (by omega))
    have hos : out.size = (Lib.join ((l.take i).map textV) [44, 32]).length + 1 := by
      have := congrArg List.length ho
      rw [List.length_cons] at this
      rw [← this]; simp
    simp only [covenantref05_Text.l0]
    rw [if_pos (by omega), if_pos (by omega), rdT_nat hi, ref_may_spec, Option.bind_some]
    by_cases hx : MayV l[i].f0 l[i].f1 l[i].f2 l[i].f3
    · have ht := textV_len hfx hx
      have hsz : (⟨(textV l[i]).toArray⟩ : ByteArray).size = (textV l[i]).length := by simp [ByteArray.size]
      have h2 : (⟨#[44, 32]⟩ : ByteArray).size = 2 := rfl
      have hm' : MayR (l.take (i + 1)) := by
        rw [List.take_succ_eq_append_getElem hi]
        intro x hx2
        rcases List.mem_append.1 hx2 with h | h
        · exact hm x h
        · have : x = l[i] := by simpa using h
          subst this; exact hx
      have hnext : Lib.join ((l.take (i + 1)).map textV) [44, 32] = if i = 0 then textV l[i] else Lib.join ((l.take i).map textV) [44, 32] ++ 44 :: 32 :: textV l[i] := by
        rw [List.take_succ_eq_append_getElem hi, List.map_append, List.map_cons, List.map_nil, join_snoc]
        by_cases h0 : i = 0
        · rw [if_pos h0, if_pos (by subst h0; rfl)]
        · rw [if_neg h0, if_neg]
          intro e
          have e9 : ((l.take i).map textV).length = 0 := congrArg List.length e
          rw [List.length_map, List.length_take] at e9
          omega
      rw [if_pos (decide_eq_true hx)]
      by_cases h0 : i = 0
      · rw [if_neg (by omega), ref_text_spec _ _ hfx (by omega), Option.bind_some, if_pos (by rw [hsz]; omega), wrap_up (by omega)]
        refine ref_text_from5 l hf hn d (m + 1) (i + 1) _ (by omega) (by omega) ?_ hm'
        rw [hnext, if_pos h0, ByteArray.data_append, Array.toList_append, ho]
        subst h0
        simp [Lib.join]
      · rw [if_pos (by omega), if_pos (by omega), ref_text_spec _ _ hfx (by omega), Option.bind_some, if_pos (by rw [ByteArray.size_append, h2, hsz]; omega), wrap_up (by omega)]
        refine ref_text_from5 l hf hn d (m + 1) (i + 1) _ (by omega) (by omega) ?_ hm'
        rw [hnext, if_neg h0]
        simp [ByteArray.data_append, ho]
    · rw [if_neg (by simpa using hx)]
      congr 1
      unfold textR
      rw [if_neg (fun h => hx (h _ (List.getElem_mem hi)))]
theorem ref_text (l : List S23) (hf : ∀ x ∈ l, FitV x) (hn : l.length < 20000) (k : Nat) (hk : l.length + 500 < k) : covenantref05_Text.f k l = some ⟨(textR l).toArray⟩ := by
  unfold covenantref05_Text.f
  exact ref_text_from5 l hf hn l.length k 0 _ (by omega) hk rfl (fun x hx => by cases hx)
theorem ref_cmp_from5 (a b : List S23) (ha : ∀ x ∈ a, x.f3.size < 20000) (hb : ∀ x ∈ b, x.f3.size < 20000) (hn : a.length < 20000) : ∀ (d k i : Nat), i + d = a.length → 2 * d + 50000 < k → i ≤ b.length → covenantref05_Compare.l0 k a b (i : Int) = some (cmpRows (a.drop i) (b.drop i))
  | 0, k, i, h, hk, hbl => by
    obtain ⟨m, rfl, hm⟩ := fuel (k := k) (d := 49999) (by omega)
    obtain ⟨m, rfl, hm⟩ := fuel (k := m) (d := 49998) (by omega)
    simp only [covenantref05_Compare.l0, covenantref05_Compare.j1]
    rw [if_neg (by omega), if_neg (by decide), List.drop_of_length_le (by omega : a.length ≤ i)]
    by_cases e : (a.length : Int) < (b.length : Int)
    · rw [if_pos e, List.drop_eq_getElem_cons (by omega : i < b.length)]; rfl
    · rw [if_neg e, if_neg (by omega), List.drop_of_length_le (by omega : b.length ≤ i)]; rfl
  | d + 1, k, i, h, hk, hbl => by
    obtain ⟨m, rfl, hm⟩ := fuel (k := k) (d := 2 * d + 50001) (by omega)
    obtain ⟨m, rfl, hm⟩ := fuel (k := m) (d := 2 * d + 50000) (by omega)
    have hi : i < a.length := by omega
    simp only [covenantref05_Compare.l0, covenantref05_Compare.j1]
    rw [if_pos (by omega), List.drop_eq_getElem_cons hi]
    by_cases e : i < b.length
    · have sa := ha _ (List.getElem_mem hi)
      have sb := hb _ (List.getElem_mem e)
      rw [if_pos (decide_eq_true (by omega)), if_pos (by omega), if_pos (by omega), if_pos (by omega), rdT_nat hi, rdT_nat e, ref_compare_spec m _ _ (by omega) (by omega) (by omega), Option.bind_some, List.drop_eq_getElem_cons e]
      unfold cmpRows
      rw [lstC]
      by_cases e2 : cmpV a[i] b[i] = 0
      · rw [if_pos e2, if_pos e2, wrap_up (by omega)]
        exact ref_cmp_from5 a b ha hb hn d m (i + 1) (by omega) (by omega) (by omega)
      · rw [if_neg e2, if_neg e2]
    · rw [if_neg (by simp; omega), if_neg (by omega), if_pos (by omega), List.drop_of_length_le (by omega : b.length ≤ i)]; rfl
theorem ref_compare_rows (a b : List S23) (ha : ∀ x ∈ a, x.f3.size < 20000) (hb : ∀ x ∈ b, x.f3.size < 20000) (hn : a.length < 20000) (k : Nat) (hk : 2 * a.length + 50000 < k) : covenantref05_Compare.f k a b = some (cmpRows a b) := by
  unfold covenantref05_Compare.f
  rw [show (0 : Int) = ((0 : Nat) : Int) from rfl, ref_cmp_from5 a b ha hb hn a.length k 0 (by omega) hk (by omega), List.drop_zero, List.drop_zero]
theorem RowTells_pure (a b : List S23) (cs : List S65) (ha : ∀ x ∈ a, FitV x) (za : ∀ x ∈ a, x.f3.size ≤ 140737488355328) (zb : ∀ x ∈ b, x.f3.size ≤ 140737488355328) : covenantlaw05_RowTells.f 200000 a b cs = some true := by
  have out : covenantlaw05_RowTells.j0 200000 a b cs true = some true := by
    simp only [covenantlaw05_RowTells.j0]
    rw [if_pos trivial]
  obtain ⟨p, hp, hp2⟩ := large_spec a za 200000 (by omega)
  obtain ⟨q, hq, hq2⟩ := large_spec b zb 200000 (by omega)
  unfold covenantlaw05_RowTells.f
  rw [hp, Option.bind_some]
  cases p with
  | true => rw [if_pos rfl]; exact out
  | false =>
    rw [if_neg (by decide), hq, Option.bind_some]
    cases q with
    | true => rw [if_pos rfl]; exact out
    | false =>
      rw [if_neg (by decide)]
      by_cases hc : (cs.length : Int) > 1000
      · rw [decide_eq_true hc]; exact out
      · rw [decide_eq_false hc]
        obtain ⟨la, sa⟩ := hp2 rfl
        obtain ⟨lb, sb⟩ := hq2 rfl
        simp only [covenantlaw05_RowTells.j0, Option.bind_some, List.nil_append, List.length_nil, Nat.zero_add]
        rw [if_neg (by decide), if_pos (by omega), ref_fits a cs ha (by omega) _ (by omega), row_fits a cs ha (by omega) _ (by omega)]
        simp only [Option.bind_some]
        rw [if_pos trivial, row_text a ha la _ (by omega), ref_text a ha la _ (by omega)]
        simp only [Option.bind_some]
        rw [if_pos trivial, same_spec a b _ (by omega) (by omega), ref_same_spec a b _ (by omega) (by omega)]
        simp only [Option.bind_some]
        rw [if_pos (by simp), compare_rows a b _ (by omega) (by omega), ref_compare_rows a b sa sb la _ (by omega)]
        simp only [Option.bind_some]
        rw [if_pos trivial, ref_same_spec a a _ (by omega) (by omega)]
        simp
end Go.Proofs.YtddmllocjocipaaDoor.D
