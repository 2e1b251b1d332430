/- The document's answers for a value: its text, which of two stands ahead. Conditions: as each theorem states them (enough rounds, texts that are no longer than a hundred thousand bytes). -/
import Derived.Test.YtddmllocjocipaaDoorTxt
import Derived.Test.YtddmllocjocipaaDoorMay
import Derived.Test.YtddmllocjocipaaDoorDx0
import Derived.Test.YtddmllocjocipaaDoorGw
import Derived.Lib.Bytealg
import Derived.Test.YtddmllocjocipaaDoorDx8
namespace Go.Proofs.YtddmllocjocipaaDoor.D
open Go.RowKit Go.Proofs.YtddmllocjocipaaDoorW.PrintWords Go.Proofs.YtddmllocjocipaaDoorW.PrintLast Go.Proofs.YtddmllocjocipaaDoorW.PrintMore
set_option linter.unusedSimpArgs false
set_option linter.unusedVariables false
theorem byte_num (u : Nat) (_ : u < 10) (x : Int) (hx : x = ((48 + u : Nat) : Int)) : strOfNums [x] = ⟨#[UInt8.ofNat (48 + u)]⟩ := by
  subst hx
  unfold strOfNums
  simp only [List.map_cons, List.map_nil, Int.toNat_natCast]
theorem digits_pos : ∀ (j : Nat) (k u : Nat), u < 10 ^ (j + 1) → u ≤ 9223372036854775807 → j < k → j < 100 → covenantref01_Digits.f k (u : Int) = some ⟨(Lib.decDigits u).toArray⟩
  | 0, k, u, h, hu, hk, hj => by
    obtain ⟨m, rfl⟩ : ∃ m, k = m + 1 := ⟨k - 1, by omega⟩
    have h' : u < 10 := by simpa using h
    unfold covenantref01_Digits.f
    rw [if_neg (by omega), if_pos (by omega), byte_num u h' _ (by unfold wrap64; omega), Lib.decDigits, dif_pos h']
  | j + 1, k, u, h, hu, hk, hj => by
    obtain ⟨m, rfl⟩ : ∃ m, k = m + 1 := ⟨k - 1, by omega⟩
    unfold covenantref01_Digits.f
    rw [if_neg (by omega), Lib.decDigits]
    by_cases h' : u < 10
    · rw [if_pos (by omega), byte_num u h' _ (by unfold wrap64; omega), dif_pos h']
    · have e : wrap64 (Int.tdiv (u : Int) 10) = ((u / 10 : Nat) : Int) := by
        rw [show Int.tdiv (u : Int) 10 = ((u / 10 : Nat) : Int) from rfl]; unfold wrap64; omega
      have e2 : Int.tmod (u : Int) 10 = ((u % 10 : Nat) : Int) := rfl
      have hl := dig_len j (u / 10) (by rw [Nat.pow_succ] at h; omega)
      rw [if_neg (by omega), dif_neg h', e, digits_pos j m (u / 10) (by rw [Nat.pow_succ] at h; omega) (by omega) (by omega) (by omega), Option.bind_some, Option.bind_some, byte_num (u % 10) (by omega) _ (by rw [e2]; unfold wrap64; omega)]
      rw [if_pos (by simp [ByteArray.size]; omega)]
      congr 1
theorem digits_neg : ∀ (j : Nat) (k u : Nat), 0 < u → u < 10 ^ (j + 1) → u ≤ 9223372036854775808 → j < k → j < 100 → covenantref01_Digits.f k (-(u : Int)) = some ⟨(45 :: Lib.decDigits u).toArray⟩
  | j, k, u, h0, h, hu, hk, hj => by
    obtain ⟨m, rfl⟩ : ∃ m, k = m + 1 := ⟨k - 1, by omega⟩
    unfold covenantref01_Digits.f
    have e : wrap64 (Int.tdiv (-(u : Int)) 10) = -((u / 10 : Nat) : Int) := by
      rw [Int.neg_tdiv, show Int.tdiv (u : Int) 10 = ((u / 10 : Nat) : Int) from rfl]; unfold wrap64; omega
    have e2 : Int.tmod (-(u : Int)) 10 = -((u % 10 : Nat) : Int) := by
      rw [Int.neg_tmod]; rfl
    rw [if_pos (by omega), e, Lib.decDigits]
    by_cases h' : u < 10
    · rw [if_pos (by omega), dif_pos h', Option.bind_some, byte_num u h' _ (by rw [e2]; unfold wrap64; omega), if_pos (by simp [ByteArray.size])]
      congr 1
    · match j, h, hk, hj with
      | 0, h, _, _ => exact absurd (by simpa using h) h'
      | j + 1, h, hk, hj =>
        have hl := dig_len j (u / 10) (by rw [Nat.pow_succ] at h; omega)
        rw [if_neg (by omega), dif_neg h', digits_neg j m (u / 10) (by omega) (by rw [Nat.pow_succ] at h; omega) (by omega) (by omega) (by omega), Option.bind_some, Option.bind_some, byte_num (u % 10) (by omega) _ (by rw [e2]; unfold wrap64; omega)]
        rw [if_pos (by simp [ByteArray.size]; omega)]
        congr 1
theorem digits_spec (k : Nat) (n : Int) (h0 : -9223372036854775808 ≤ n) (h1 : n ≤ 9223372036854775807) (hk : 30 ≤ k) : covenantref01_Digits.f k n = some ⟨(Lib.itoa n).toArray⟩ := by
  unfold Lib.itoa
  by_cases h : n < 0
  · rw [if_pos h]
    have := digits_neg 19 k n.natAbs (by omega) (by have : n.natAbs ≤ 9223372036854775808 := by omega
                                                    exact Nat.lt_of_le_of_lt this (by decide)) (by omega) (by omega) (by omega)
    rw [show -((n.natAbs : Nat) : Int) = n by omega] at this
    exact this
  · rw [if_neg h]
    have := digits_pos 19 k n.toNat (by have : n.toNat ≤ 9223372036854775807 := by omega
                                        exact Nat.lt_of_le_of_lt this (by decide)) (by omega) (by omega) (by omega)
    rw [show ((n.toNat : Nat) : Int) = n by omega] at this
    exact this
theorem bt_nat {s : ByteArray} {i : Nat} (h : i < s.size) : bt s (i : Int) = (s.data.toList[i]'(by simpa using h)).toNat := by
  unfold bt
  rw [dif_pos (by simpa using h)]
  simp
  rfl
/-! ### texts -/
theorem ext_one (s : ByteArray) (i : Nat) (h : i < s.size) : (s.extract i (i + 1)).data.toList = [s.data.toList[i]'(by simpa using h)] := by
  have h' : i < s.data.toList.length := by simpa using h
  rw [ByteArray.data_extract, Array.toList_extract, List.extract_eq_take_drop, show i + 1 - i = 1 by omega, List.drop_eq_getElem_cons h']
  rfl
theorem ref_text_from (a b c d0 : Int) (s : ByteArray) (hs : s.size ≤ 100000) : ∀ (d k i : Nat) (x3 : ByteArray), i + d = s.size → d + 1 ≤ k → x3.size ≤ 2 * i + 1 →
    covenantref01_Text.l0 k x3 (i : Int) a b c s = some ⟨(x3.data.toList ++ dbl (s.data.toList.drop i) ++ [39]).toArray⟩
  | 0, k, i, x3, h, hk, hx => by
    obtain ⟨m, rfl⟩ : ∃ m, k = m + 1 := ⟨k - 1, by omega⟩
    have hsl : s.data.toList.length = s.size := by simp
    simp only [covenantref01_Text.l0]
    rw [if_neg (by omega), if_pos (by omega), List.drop_of_length_le (by omega)]
    congr 1
    exact ba_eq (by simp [dbl])
  | d + 1, k, i, x3, h, hk, hx => by
    obtain ⟨m, rfl⟩ : ∃ m, k = m + 1 := ⟨k - 1, by omega⟩
    have hsl : s.data.toList.length = s.size := by simp
    have hi : i < s.size := by omega
    have w1 : wrap64 ((i : Int) + 1) = ((i + 1 : Nat) : Int) := by unfold wrap64; omega
    have he := ext_one s i hi
    have hz : (s.extract i (i + 1)).size = 1 := by
      have h2 : (s.extract i (i + 1)).data.toList.length = 1 := by rw [he]; rfl
      rw [Array.length_toList] at h2
      exact h2
    simp only [covenantref01_Text.l0]
    rw [w1, if_pos (by omega), if_pos (by omega), if_pos (by omega), if_pos (by omega)]
    simp only [Int.toNat_natCast]
    rw [hz, if_pos (by omega), bt_nat hi, List.drop_eq_getElem_cons (by omega : i < s.data.toList.length)]
    by_cases c39 : s.data.toList[i] = 39
    · rw [if_pos (by rw [c39]; rfl), if_pos (by rw [ByteArray.size_append, hz]; omega)]
      rw [ref_text_from a b c d0 s hs d m (i + 1) _ (by omega) (by omega) (by rw [ByteArray.size_append, ByteArray.size_append, hz, show (⟨#[39]⟩ : ByteArray).size = 1 from rfl]; omega)]
      congr 1
      refine ba_eq ?_
      simp only [ByteArray.data_append, Array.toList_append, he, dbl, List.flatMap_cons, c39, if_true, List.append_assoc]
      rfl
    · rw [if_neg (fun e => c39 (UInt8.toNat_inj.1 (show s.data.toList[i].toNat = (39 : UInt8).toNat from Int.ofNat.inj e)))]
      rw [ref_text_from a b c d0 s hs d m (i + 1) _ (by omega) (by omega) (by rw [ByteArray.size_append, hz]; omega)]
      congr 1
      refine ba_eq ?_
      simp only [ByteArray.data_append, Array.toList_append, he, dbl, List.flatMap_cons, c39, if_false, List.append_assoc]

theorem ref_text_spec (k : Nat) (x : S23) (hf : FitV x) (hk : 400 ≤ k) : covenantref01_Text.f k x.f0 x.f1 x.f2 x.f3 = some ⟨(textV x).toArray⟩ := by
  obtain ⟨m, rfl⟩ : ∃ m, k = m + 1 := ⟨k - 1, by omega⟩
  obtain ⟨_, w1, w2, _⟩ := hf
  have b1 : -9223372036854775808 ≤ x.f1 ∧ x.f1 ≤ 9223372036854775807 := by simpa [Lit.wf, IntKind.min, IntKind.max, IntKind.signed, IntKind.bits] using w1
  have b2 : -9223372036854775808 ≤ x.f2 ∧ x.f2 ≤ 9223372036854775807 := by simpa [Lit.wf, IntKind.min, IntKind.max, IntKind.signed, IntKind.bits] using w2
  have l1 := itoa_len x.f1 b1.1 b1.2
  have l2 := itoa_len x.f2 b2.1 b2.2
  unfold covenantref01_Text.f
  rw [ref_may_spec, Option.bind_some]
  by_cases hm : MayV x.f0 x.f1 x.f2 x.f3
  · rw [if_pos (by simpa using hm)]
    by_cases e0 : x.f0 = 0
    · have ht : textV x = [110, 117, 108, 108] := by unfold textV; rw [if_neg (fun h => h hm), if_pos e0]
      rw [if_pos e0, ht]
    rw [if_neg e0]
    by_cases e1 : x.f0 = 1
    · have ht : textV x = Lib.itoa x.f1 := by unfold textV; rw [if_neg (fun h => h hm), if_neg e0, if_neg (by omega), if_neg (by omega), if_neg (by omega)]
      rw [if_pos e1, digits_spec _ _ b1.1 b1.2 (by omega), Option.bind_some, ht]
    rw [if_neg e1]
    by_cases e2 : x.f0 = 2
    · rw [if_pos e2]
      by_cases h1 : x.f1 = 1
      · have ht : textV x = [121, 101, 115] := by unfold textV; rw [if_neg (fun h => h hm), if_neg e0, if_pos e2, if_pos h1]
        rw [if_pos h1, ht]
      · have ht : textV x = [110, 111] := by unfold textV; rw [if_neg (fun h => h hm), if_neg e0, if_pos e2, if_neg h1]
        rw [if_neg h1, ht]
    rw [if_neg e2]
    by_cases e4 : x.f0 = 4
    · have ht : textV x = 91 :: Lib.itoa x.f1 ++ [44] ++ Lib.itoa x.f2 ++ [41] := by unfold textV; rw [if_neg (fun h => h hm), if_neg e0, if_neg e2, if_neg (by omega), if_pos e4]
      rw [if_pos e4, ht, digits_spec _ _ b1.1 b1.2 (by omega), digits_spec _ _ b2.1 b2.2 (by omega)]
      simp only [Option.bind_some]
      rw [if_pos (by simp [ByteArray.size]; omega), if_pos (by simp [ByteArray.size]; omega), if_pos (by simp [ByteArray.size]; omega), if_pos (by simp [ByteArray.size]; omega)]
      congr 1
    rw [if_neg e4]
    have h3 : x.f0 = 3 := by
      rcases hm with h | h | h | h | h <;> omega
    have hs : x.f3.size ≤ 256 := by
      rcases hm with h | h | h | h | h <;> omega
    have ht : textV x = 39 :: dbl x.f3.data.toList ++ [39] := by unfold textV; rw [if_neg (fun h => h hm), if_neg e0, if_neg e2, if_pos h3]
    rw [show (0 : Int) = ((0 : Nat) : Int) from rfl, ref_text_from x.f0 x.f1 x.f2 0 x.f3 (by omega) x.f3.size (m + 1) 0 _ (by omega) (by omega) (by decide), ht]
    rfl
  · have ht : textV x = [] := by unfold textV; rw [if_pos hm]
    rw [if_neg (by simpa using hm), ht]
end Go.Proofs.YtddmllocjocipaaDoor.D
