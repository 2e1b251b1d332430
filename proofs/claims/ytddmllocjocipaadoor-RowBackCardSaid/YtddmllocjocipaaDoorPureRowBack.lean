/- The laws RowBack and RowApart, over lists of values and a text alone. Conditions: as each theorem states them (texts of no more than 140737488355328 bytes). -/
import Derived.Test.YtddmllocjocipaaDoorRowEx
import Derived.Test.YtddmllocjocipaaDoorRowBk
import Derived.Test.YtddmllocjocipaaDoorDx21
namespace Go.Proofs.YtddmllocjocipaaDoor.D
open Go.RowKit Go.Proofs.YtddmllocjocipaaDoorW.PrintWords Go.Proofs.YtddmllocjocipaaDoorW.PrintLast Go.Proofs.YtddmllocjocipaaDoorW.PrintMore
set_option linter.unusedSimpArgs false
set_option linter.unusedVariables false
theorem row_parse (k : Nat) (s : ByteArray) (hk : 1 ≤ k) (hs : s.size ≤ 1000000000) : row_Parse.f k s = some (parseRow s) := by
  unfold row_Parse.f; rw [if_pos ⟨hk, hs⟩]
theorem textR_len (l : List S23) (hf : ∀ x ∈ l, FitV x) (hn : l.length < 20000) : (textR l).length ≤ 100000000 := by
  unfold textR
  split
  · next hm =>
    have hl := join_len (l.map textV) 600 (by
      intro p hp
      obtain ⟨x, hx, rfl⟩ := List.mem_map.1 hp
      exact textV_len (hf x hx) (hm x hx))
    rw [List.length_map] at hl
    simp only [List.cons_append, List.length_cons, List.length_append, List.length_nil]
    omega
  · simp
theorem textR_ne {l : List S23} : textR l ≠ [] ↔ MayR l := by
  unfold textR
  by_cases h : MayR l
  · rw [if_pos h]; simp [h]
  · rw [if_neg h]; simp [h]
theorem back_tail (k : Nat) (s : ByteArray) (hk : 30000 ≤ k) (hs : s.size ≤ 5000) : covenantlaw05_RowBack.j2 k s false = some true := by
  obtain ⟨m, rfl, hm⟩ := fuel (k := k) (d := 29999) (by omega)
  simp only [covenantlaw05_RowBack.j2]
  rw [if_neg (by decide), row_parse m s (by omega) (by omega), Option.bind_some]
  rcases parse_back s (by omega) with h | ⟨h1, h2, h3, h4, h5⟩
  · rw [h]
    rw [if_neg (show ¬ (4 : Int) = 0 by decide), if_pos (show (([] : List S23).length : Int) = 0 from rfl)]
  · rw [if_pos h1, row_text _ h4 (by omega) m (by omega), Option.bind_some, h2]
    simp [tl_eq]
theorem back_from (l : List S23) (s : ByteArray) (hf : ∀ x ∈ l, FitV x) (hn : l.length < 20000) (hs : s.size ≤ 5000) : ∀ (d k i : Nat), i + d = l.length → d + 60000 ≤ k →
    covenantlaw05_RowBack.l0 k l s (decide (MayR (l.take i))) (i : Int) = some true
  | 0, k, i, h, hk => by
    obtain ⟨m, rfl, hm⟩ := fuel (k := k) (d := 59999) (by omega)
    rw [List.take_of_length_le (by omega)]
    have hl := textR_len l hf hn
    simp only [covenantlaw05_RowBack.l0]
    rw [if_neg (by omega), row_text l hf hn m (by omega), Option.bind_some, row_parse m _ (by omega) (by rw [mk_size]; omega), Option.bind_some]
    have e1 : ((⟨(textR l).toArray⟩ : ByteArray).toList != ([] : List UInt8)) = decide (MayR l) := by
      rw [tl_eq, Bool.eq_iff_iff, decide_eq_true_eq, bne_iff_ne]
      show textR l ≠ [] ↔ _
      exact textR_ne
    rw [e1, if_neg (by simp)]
    by_cases hmay : MayR l
    · rw [if_pos (decide_eq_true hmay), parse_textR l hf hmay, if_pos rfl, ref_same_spec _ _ _ (by omega) (by omega), Option.bind_some, decide_eq_true rfl]
      exact back_tail m s (by omega) hs
    · rw [if_neg (by simpa using hmay)]
      exact back_tail m s (by omega) hs
  | d + 1, k, i, h, hk => by
    obtain ⟨m, rfl, hm⟩ := fuel (k := k) (d := d + 60000) (by omega)
    have hi : i < l.length := by omega
    have hfx := hf _ (List.getElem_mem hi)
    have r := rangeV hfx
    have next := back_from l s hf hn hs d m (i + 1) (by omega) (by omega)
    have hstep : MayR (l.take (i + 1)) ↔ MayR (l.take i) ∧ MayV l[i].f0 l[i].f1 l[i].f2 l[i].f3 := by
      rw [List.take_succ_eq_append_getElem hi]
      constructor
      · intro h
        exact ⟨fun x hx => h x (List.mem_append_left _ hx), h _ (List.mem_append_right _ (by simp))⟩
      · rintro ⟨h1, h2⟩ x hx
        rcases List.mem_append.1 hx with hx | hx
        · exact h1 x hx
        · have : x = l[i] := by simpa using hx
          subst this; exact h2
    simp only [covenantlaw05_RowBack.l0]
    rw [if_pos (by omega), wrap_up (by omega)]
    by_cases hb : MayR (l.take i)
    · rw [if_pos (decide_eq_true hb), if_pos (by omega), rdT_nat hi, may_spec _ _ _ _ r.1 r.2, Option.bind_some]
      have e : decide (MayV l[i].f0 l[i].f1 l[i].f2 l[i].f3) = decide (MayR (l.take (i + 1))) := decide_eq_decide.2 (by rw [hstep]; exact ⟨fun h => ⟨hb, h⟩, fun h => h.2⟩)
      rw [e]; exact next
    · rw [if_neg (by simpa using hb)]
      have e : false = decide (MayR (l.take (i + 1))) := (decide_eq_false (fun h => hb (hstep.1 h).1)).symm
      rw [e]; exact next
theorem RowBack_pure (l : List S23) (s : ByteArray) (hf : ∀ x ∈ l, FitV x) (hl : ∀ x ∈ l, x.f3.size ≤ 140737488355328) : covenantlaw05_RowBack.f 200000 l s = some true := by
  have out : covenantlaw05_RowBack.j0 200000 l s true = some true := by
    simp only [covenantlaw05_RowBack.j0]
    rw [if_pos trivial, exam_spec 199999 (by omega)]
    rfl
  obtain ⟨p, hp, hp2⟩ := large_spec l hl 200000 (by omega)
  unfold covenantlaw05_RowBack.f
  rw [exam_spec 200000 (by omega), Option.bind_some, if_pos rfl, hp, Option.bind_some]
  cases p with
  | true => rw [if_pos rfl]; exact out
  | false =>
    rw [if_neg (by decide)]
    by_cases hs : (s.size : Int) > 5000
    · rw [decide_eq_true hs]; exact out
    · rw [decide_eq_false hs]
      simp only [covenantlaw05_RowBack.j0]
      rw [if_neg (by decide)]
      have := back_from l s hf (hp2 rfl).1 (by omega) l.length 199999 0 (by omega) (by have := (hp2 rfl).1; omega)
      rw [List.take_zero, decide_eq_true (show MayR [] from fun x hx => by cases hx)] at this
      exact this
end Go.Proofs.YtddmllocjocipaaDoor.D
