/- What the functions of package row come to, over lists of values alone: a row's text, whether two are the same, which stands ahead, whether it fits. Conditions: as each theorem states them (few values, enough rounds). -/
import Derived.Test.YtddmllocjocipaaDoorTxt
import Derived.Test.YtddmllocjocipaaDoorOrd
import Derived.Test.YtddmllocjocipaaDoorDx19
namespace Go.Proofs.YtddmllocjocipaaDoor.D
open Go.RowKit Go.Proofs.YtddmllocjocipaaDoorW.PrintWords Go.Proofs.YtddmllocjocipaaDoorW.PrintLast Go.Proofs.YtddmllocjocipaaDoorW.PrintMore
set_option linter.unusedSimpArgs false
set_option linter.unusedVariables false
theorem rdT_nat {xs : List S23} {i : Nat} (h : i < xs.length) : rd_T23 xs (i : Int) = xs[i] := by simp [rd_T23, List.getD, h]
theorem wrap_up {i : Nat} (h : i < 4611686018427387904) : wrap64 ((i : Int) + 1) = ((i + 1 : Nat) : Int) := by unfold wrap64; omega
theorem fuel {k d : Nat} (h : d < k) : ∃ m, k = m + 1 ∧ d ≤ m := ⟨k - 1, by omega, by omega⟩
theorem rangeV {x : S23} (h : FitV x) : -9223372036854775808 ≤ x.f1 ∧ x.f1 ≤ 9223372036854775807 := by simpa [Lit.wf, IntKind.min, IntKind.max, IntKind.signed, IntKind.bits] using h.2.1
theorem rangeH {x : S23} (h : FitV x) : -9223372036854775808 ≤ x.f2 ∧ x.f2 ≤ 9223372036854775807 := by simpa [Lit.wf, IntKind.min, IntKind.max, IntKind.signed, IntKind.bits] using h.2.2.1
/-! ### how much a row is -/
/-! ### the same rows -/
theorem bytes_beq {a b : ByteArray} : (a.toList == b.toList) = true ↔ a = b := by
  rw [beq_iff_eq, ByteArray.toList_eq, ByteArray.toList_eq]
  exact ⟨fun h => ba_eq h, fun h => by rw [h]⟩
instance : DecidableEq S23 := fun a b =>
  if h : a.f0 = b.f0 ∧ a.f1 = b.f1 ∧ a.f2 = b.f2 ∧ (a.f3.toList == b.f3.toList) = true then isTrue (s23_ext h.1 h.2.1 h.2.2.1 (bytes_beq.1 h.2.2.2))
  else isFalse (fun e => h (by subst e; exact ⟨rfl, rfl, rfl, by simp⟩))
theorem ne_test (x y : S23) : (!((x.f0) == (y.f0)) || (!((x.f1) == (y.f1)) || (!((x.f2) == (y.f2)) || (!(((x.f3).toList) == ((y.f3).toList)))))) = true ↔ x ≠ y := by
  have hb := @bytes_beq x.f3 y.f3
  cases hq : (x.f3.toList == y.f3.toList) with
  | true =>
    have h3 := hb.1 hq
    simp only [Bool.not_true, Bool.or_false, Bool.or_eq_true, Bool.not_eq_true', beq_eq_false_iff_ne]
    constructor
    · rintro (h | h | h) e
      · exact h (by rw [e])
      · exact h (by rw [e])
      · exact h (by rw [e])
    · intro h
      by_cases h0 : x.f0 = y.f0
      · by_cases h1 : x.f1 = y.f1
        · by_cases h2 : x.f2 = y.f2
          · exact absurd (s23_ext h0 h1 h2 h3) h
          · exact .inr (.inr h2)
        · exact .inr (.inl h1)
      · exact .inl h0
  | false =>
    simp only [Bool.not_false, Bool.or_true, true_iff]
    intro e
    rw [e] at hq
    simp at hq
theorem eq_from (a b : List S23) (hl : a.length = b.length) (hn : a.length < 1000000) : ∀ (d k i : Nat), i + d = a.length → d < k → api_Value_77.l0 k a b (a.length : Int) (i : Int) = some (decide (a.drop i = b.drop i))
  | 0, k, i, h, hk => by
    obtain ⟨m, rfl, _⟩ := fuel hk
    simp only [api_Value_77.l0]
    rw [if_neg (by omega), List.drop_of_length_le (by omega), List.drop_of_length_le (by omega)]
    rfl
  | d + 1, k, i, h, hk => by
    obtain ⟨m, rfl, hm⟩ := fuel hk
    have hi : i < a.length := by omega
    simp only [api_Value_77.l0]
    rw [if_pos (by omega), if_pos (by omega), if_pos (by omega), if_pos (by omega), rdT_nat hi, rdT_nat (by omega), wrap_up (by omega), List.drop_eq_getElem_cons hi, List.drop_eq_getElem_cons (by omega : i < b.length)]
    by_cases e : a[i] = b[i]'(by omega)
    · rw [if_neg (fun h => (ne_test _ _).1 h e), eq_from a b hl hn d m (i + 1) (by omega) (by omega), e]
      congr 1
      exact decide_eq_decide.2 ⟨fun h => by rw [h], fun h => (List.cons.inj h).2⟩
    · rw [if_pos ((ne_test _ _).2 e)]
      congr 1
      rw [eq_comm, decide_eq_false_iff_not]
      exact fun h => e (List.cons.inj h).1
theorem same_spec (a b : List S23) (k : Nat) (hn : a.length < 1000000) (hk : a.length < k) : row_Same.f k a b = some (decide (a = b)) := by
  unfold row_Same.f api_Value_77.f
  by_cases h : a.length = b.length
  · rw [if_pos (by omega), show (0 : Int) = ((0 : Nat) : Int) from rfl, eq_from a b h hn a.length k 0 (by omega) hk, List.drop_zero, List.drop_zero]
    rfl
  · rw [if_neg (by omega)]
    simp only [Option.bind_some]
    congr 1
    rw [eq_comm, decide_eq_false_iff_not]
    exact fun e => h (by rw [e])
/-! ### which row stands ahead -/
/-! ### a row's text -/
theorem textV_len {x : S23} (hf : FitV x) (hm : MayV x.f0 x.f1 x.f2 x.f3) : (textV x).length ≤ 600 := by
  have b := rangeV hf
  have b2 := rangeH hf
  rcases may_cases hm with ⟨h2, e⟩ | ⟨n, h2, e⟩ | ⟨h2, e⟩ | ⟨h2, e⟩ | ⟨t, h2, e⟩ | ⟨n, m, h2, e⟩
  · rw [e]; decide
  · have := itoa_len n (by have := b.1; rw [h2] at this; exact this) (by have := b.2; rw [h2] at this; exact this)
    rw [e]; omega
  · rw [e]; decide
  · rw [e]; decide
  · have h3 := dbl_len t.data.toList
    have h4 : t.size ≤ 256 := by
      rw [h2] at hm
      rcases hm with h | h | h | h | h <;> simp at h <;> omega
    rw [show t.data.toList.length = t.size by simp] at h3
    rw [e]; simp; omega
  · have h3 := itoa_len n (by have := b.1; rw [h2] at this; exact this) (by have := b.2; rw [h2] at this; exact this)
    have h4 := itoa_len m (by have := b2.1; rw [h2] at this; exact this) (by have := b2.2; rw [h2] at this; exact this)
    rw [e]; simp; omega
def MayR (l : List S23) : Prop := ∀ x ∈ l, MayV x.f0 x.f1 x.f2 x.f3
instance (l : List S23) : Decidable (MayR l) := by unfold MayR; infer_instance
/-- A row's text, byte by byte. -/
def textR (l : List S23) : List UInt8 := if MayR l then 40 :: Lib.join (l.map textV) [44, 32] ++ [41] else []
theorem join_cons2 (p q : List UInt8) (l : List (List UInt8)) : Lib.join (p :: q :: l) [44, 32] = p ++ ([44, 32] ++ Lib.join (q :: l) [44, 32]) := by
  unfold Lib.join List.intercalate
  simp [List.intersperse]
theorem join_len (l : List (List UInt8)) (n : Nat) (h : ∀ p ∈ l, p.length ≤ n) : (Lib.join l [44, 32]).length ≤ l.length * (n + 2) := by
  induction l with
  | nil => simp [Lib.join]
  | cons p l ih =>
    have hp := h p (by simp)
    have ih' := ih (fun q hq => h q (List.mem_cons_of_mem _ hq))
    cases l with
    | nil => simp [Lib.join]; omega
    | cons q l =>
      rw [join_cons2]
      simp only [List.length_append, List.length_cons, List.length_nil, Nat.add_mul, Nat.one_mul] at ih' ⊢
      omega
theorem text_from (l : List S23) (hf : ∀ x ∈ l, FitV x) (hn : l.length < 20000) : ∀ (d k i : Nat) (out : List ByteArray), i + d = l.length → d + 1 < k → out = (l.take i).map (fun x => (⟨(textV x).toArray⟩ : ByteArray)) → MayR (l.take i) →
    row_Text.l0 k out l (l.length : Int) (i : Int) = some ⟨(textR l).toArray⟩
  | 0, k, i, out, h, hk, ho, hm => by
    obtain ⟨m, rfl, _⟩ := fuel (k := k) (d := 0) (by omega)
    simp only [row_Text.l0]
    rw [List.take_of_length_le (by omega)] at ho hm
    have e1 : out.map (·.data.toList) = l.map textV := by
      rw [ho, List.map_map]; exact List.map_congr_left fun x _ => by simp
    have hl := join_len (l.map textV) 600 (by
      intro p hp
      obtain ⟨x, hx, rfl⟩ := List.mem_map.1 hp
      exact textV_len (hf x hx) (hm x hx))
    rw [List.length_map] at hl
    have hol : out.length = l.length := by rw [ho, List.length_map]
    rw [if_neg (by omega)]
    unfold strings_Join.f
    rw [e1, show (⟨#[44, 32]⟩ : ByteArray).data.toList = [44, 32] from rfl, if_pos ⟨by omega, by omega⟩, Option.bind_some]
    have hsz : (⟨(Lib.join (l.map textV) [44, 32]).toArray⟩ : ByteArray).size = (Lib.join (l.map textV) [44, 32]).length := by simp [ByteArray.size]
    have h40 : (⟨#[40]⟩ : ByteArray).size = 1 := rfl
    rw [if_pos (by rw [hsz]; omega), if_pos (by rw [ByteArray.size_append, hsz, h40]; omega)]
    congr 1
    apply ba_eq
    unfold textR
    rw [if_pos hm]
    simp [ByteArray.data_append]
  | d + 1, k, i, out, h, hk, ho, hm => by
    obtain ⟨m, rfl, hm2⟩ := fuel (k := k) (d := d + 1) (by omega)
    have hi : i < l.length := by omega
    have hfx := hf _ (List.getElem_mem hi)
    have r := rangeV hfx
    have hol : out.length = i := by rw [ho, List.length_map, List.length_take]; omega
    simp only [row_Text.l0]
    rw [if_pos (by omega), if_pos (by omega), if_pos (by omega), rdT_nat hi, may_spec _ _ _ _ r.1 r.2, Option.bind_some]
    by_cases hx : MayV l[i].f0 l[i].f1 l[i].f2 l[i].f3
    · rw [if_pos (decide_eq_true hx), text_spec m _ hfx (by omega), Option.bind_some, if_pos (by omega), wrap_up (by omega)]
      refine text_from l hf hn d m (i + 1) _ (by omega) (by omega) ?_ ?_
      · rw [ho, List.take_succ_eq_append_getElem hi, List.map_append]; rfl
      · rw [List.take_succ_eq_append_getElem hi]
        intro x hx2
        rcases List.mem_append.1 hx2 with h | h
        · exact hm x h
        · have : x = l[i] := by simpa using h
          subst this; exact hx
    · rw [if_neg (by simpa using hx)]
      congr 1
      unfold textR
      rw [if_neg (fun h => hx (h _ (List.getElem_mem hi)))]
theorem row_text (l : List S23) (hf : ∀ x ∈ l, FitV x) (hn : l.length < 20000) (k : Nat) (hk : l.length + 1 < k) : row_Text.f k l = some ⟨(textR l).toArray⟩ := by
  unfold row_Text.f
  exact text_from l hf hn l.length k 0 [] (by omega) hk rfl (fun x hx => by cases hx)
/-! ### whether a row fits -/
def FitsV (x : S23) (t : Int) : Prop := 1 ≤ t ∧ t ≤ 4 ∧ MayV x.f0 x.f1 x.f2 x.f3 ∧ (x.f0 = 0 ∨ x.f0 = t)
instance (x : S23) (t : Int) : Decidable (FitsV x t) := by unfold FitsV; infer_instance
def FitsR (l : List S23) (cs : List S65) : Prop := ∀ p ∈ l.zip cs, FitsV p.1 p.2.f1
instance (l : List S23) (cs : List S65) : Decidable (FitsR l cs) := by unfold FitsR; infer_instance
end Go.Proofs.YtddmllocjocipaaDoor.D
