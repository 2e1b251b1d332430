/- What the functions of package value come to, over a value's parts: which values may be, which stands ahead, a value's text; and the law ValueTells. Conditions: as each theorem states them. -/
import Derived.Test.YtddmllocjocipaaDoorDx9
import Derived.Test.YtddmllocjocipaaDoorOpen
import Derived.Lib.ReplaceLaws
import Derived.Lib.SplitLaws
import Derived.Lib.IndexBytes
namespace Go.Proofs.YtddmllocjocipaaDoor.D
open Go.RowKit Go.Proofs.YtddmllocjocipaaDoorW.PrintWords Go.Proofs.YtddmllocjocipaaDoorW.PrintLast Go.Proofs.YtddmllocjocipaaDoorW.PrintMore
set_option linter.unusedSimpArgs false
theorem ba_eq {a b : ByteArray} (h : a.data.toList = b.data.toList) : a = b := by
  cases a; cases b; simp_all
theorem tl_eq (a : ByteArray) : a.toList = a.data.toList := by exact Lib.toList_data a
def MayV (a b c : Int) (s : ByteArray) : Prop := (a = 0 ∧ b = 0 ∧ c = 0 ∧ s.toList = []) ∨ (a = 1 ∧ c = 0 ∧ s.toList = []) ∨ (a = 2 ∧ (b = 0 ∨ b = 1) ∧ c = 0 ∧ s.toList = []) ∨ (a = 3 ∧ b = 0 ∧ c = 0 ∧ (s.size : Int) ≤ 256) ∨ (a = 4 ∧ s.toList = [] ∧ b < c)
instance (a b c : Int) (s : ByteArray) : Decidable (MayV a b c s) := by unfold MayV; infer_instance
theorem and_one_i64 (b : Int) (_ : -9223372036854775808 ≤ b) (_ : b ≤ 9223372036854775807) : Go.bits .and .i64 b 1 = b % 2 := by
  show IntKind.i64.wrap ((BitVec.ofInt 64 b &&& BitVec.ofInt 64 1).toNat : Int) = _
  have h2 : (BitVec.ofInt 64 1).toNat = 1 := by decide
  rw [BitVec.toNat_and, h2, Nat.and_one_is_mod, BitVec.toNat_ofInt, IntKind.wrap_i64]
  omega
theorem may_spec (a b c : Int) (s : ByteArray) (h0 : -9223372036854775808 ≤ b) (h1 : b ≤ 9223372036854775807) : value_May.f a b c s = some (decide (MayV a b c s)) := by
  unfold value_May.f MayV
  rw [and_one_i64 b h0 h1]
  have hb : (b = b % 2) ↔ (b = 0 ∨ b = 1) := by omega
  by_cases e0 : a = 0
  · subst e0; by_cases q : b = 0 <;> by_cases q2 : c = 0 <;> by_cases q3 : s.toList = [] <;> simp [q, q2, q3]
  by_cases e1 : a = 1
  · subst e1; by_cases q2 : c = 0 <;> by_cases q3 : s.toList = [] <;> simp [q2, q3]
  by_cases e2 : a = 2
  · subst e2
    rw [if_neg (by omega), if_neg (by omega), if_pos rfl]
    by_cases q : b = 0 ∨ b = 1
    · have q4 : (b == b % 2) = true := beq_iff_eq.2 (hb.2 q)
      by_cases q2 : c = 0 <;> by_cases q3 : s.toList = [] <;> simp [q, q2, q3, q4]
    · have q4 : (b == b % 2) = false := beq_eq_false_iff_ne.2 (fun h => q (hb.1 h))
      simp [q, q4]
  by_cases e3 : a = 3
  · subst e3; by_cases q : b = 0 <;> by_cases q2 : c = 0 <;> simp [q, q2]
  by_cases e4 : a = 4
  · subst e4; by_cases q : s.toList = [] <;> simp [q]
  simp [e0, e1, e2, e3, e4]
theorem ref_may_spec (k : Nat) (a b c : Int) (s : ByteArray) : covenantref01_May.f (k + 1) a b c s = some (decide (MayV a b c s)) := by
  unfold covenantref01_May.f covenantref01_May.j0 MayV
  by_cases e0 : a = 0
  · subst e0; by_cases q : s.toList = [] <;> by_cases q2 : c = 0 <;> by_cases q3 : b = 0 <;> simp [q, q2, q3]
  by_cases e1 : a = 1
  · subst e1; by_cases q : s.toList = [] <;> by_cases q2 : c = 0 <;> simp [q, q2]
  by_cases e2 : a = 2
  · subst e2; by_cases q : s.toList = [] <;> by_cases q2 : c = 0 <;> by_cases q3 : b = 0 <;> by_cases q4 : b = 1 <;> simp [q, q2, q3, q4]
  by_cases e3 : a = 3
  · subst e3; by_cases q : b = 0 <;> by_cases q2 : c = 0 <;> simp [q, q2]
  by_cases e4 : a = 4
  · subst e4; by_cases q : s.toList = [] <;> simp [q]
  by_cases q : s.toList = [] <;> by_cases q2 : c = 0 <;> simp [q, q2, e0, e1, e2, e3, e4]
theorem fits_spec (k : Nat) (a b c : Int) (s : ByteArray) (t : Int) (h0 : -9223372036854775808 ≤ b) (h1 : b ≤ 9223372036854775807) : covenantref01_Fits.f (k + 1) a b c s t = value_Fits.f a b c s t := by
  unfold covenantref01_Fits.f value_Fits.f
  rw [ref_may_spec, may_spec _ _ _ _ h0 h1]
  by_cases e1 : t = 1
  · subst e1; simp
  by_cases e2 : t = 2
  · subst e2; simp
  by_cases e3 : t = 3
  · subst e3; simp
  by_cases e4 : t = 4
  · subst e4; simp
  rw [if_neg e1, if_neg e2, if_neg e3, if_neg e4]
  by_cases q : t ≥ 1
  · rw [if_pos q, if_neg (by omega)]
  · rw [if_neg q]

/-! ### digits -/
theorem byte_num (u : Nat) (_ : u < 10) (x : Int) (hx : x = ((48 + u : Nat) : Int)) : strOfNums [x] = ⟨#[UInt8.ofNat (48 + u)]⟩ := by
  subst hx
  unfold strOfNums
  simp only [List.map_cons, List.map_nil, Int.toNat_natCast]
theorem dig_len : ∀ (j u : Nat), u < 10 ^ (j + 1) → (Lib.decDigits u).length ≤ j + 1
  | 0, u, h => by rw [Lib.decDigits, dif_pos (by simpa using h)]; simp
  | j + 1, u, h => by
    rw [Lib.decDigits]
    split
    · simp
    · have := dig_len j (u / 10) (by rw [Nat.pow_succ] at h; omega)
      simp; omega
theorem digits_pos : ∀ (j : Nat) (k u : Nat), u < 10 ^ (j + 1) → u ≤ 9223372036854775807 → j < k → j < 100 → covenantref01_Digits.f k (u : Int) = some ⟨(Lib.decDigits u).toArray⟩
  | 0, k, u, h, hu, hk, hj => by
    obtain ⟨m, rfl⟩ : ∃ m, k = m + 1 := ⟨k - 1, by omega⟩
    have h' : u < 10 := by simpa using h
    unfold covenantref01_Digits.f
    rw [if_neg (by omega), if_pos (by omega), byte_num u h' _ (by unfold wrap64; omega), Lib.decDigits, dif_pos h']
  | j + 1, k, u, h, hu, hk, hj => by
    obtain ⟨m, rfl⟩ : ∃ m, k = m + 1 := ⟨k - 1, by omega⟩
    unfold covenantref01_Digits.f
    rw [if_neg (by omega), Lib.decDigits]
    by_cases h' : u < 10
    · rw [if_pos (by omega), byte_num u h' _ (by unfold wrap64; omega), dif_pos h']
    · have e : wrap64 (Int.tdiv (u : Int) 10) = ((u / 10 : Nat) : Int) := by
        rw [show Int.tdiv (u : Int) 10 = ((u / 10 : Nat) : Int) from rfl]; unfold wrap64; omega
      have e2 : Int.tmod (u : Int) 10 = ((u % 10 : Nat) : Int) := rfl
      have hl := dig_len j (u / 10) (by rw [Nat.pow_succ] at h; omega)
      rw [if_neg (by omega), dif_neg h', e, digits_pos j m (u / 10) (by rw [Nat.pow_succ] at h; omega) (by omega) (by omega) (by omega), Option.bind_some, Option.bind_some, byte_num (u % 10) (by omega) _ (by rw [e2]; unfold wrap64; omega)]
      rw [if_pos (by simp [ByteArray.size]; omega)]
      congr 1
theorem digits_neg : ∀ (j : Nat) (k u : Nat), 0 < u → u < 10 ^ (j + 1) → u ≤ 9223372036854775808 → j < k → j < 100 → covenantref01_Digits.f k (-(u : Int)) = some ⟨(45 :: Lib.decDigits u).toArray⟩
  | j, k, u, h0, h, hu, hk, hj => by
    obtain ⟨m, rfl⟩ : ∃ m, k = m + 1 := ⟨k - 1, by omega⟩
    unfold covenantref01_Digits.f
    have e : wrap64 (Int.tdiv (-(u : Int)) 10) = -((u / 10 : Nat) : Int) := by
      rw [Int.neg_tdiv, show Int.tdiv (u : Int) 10 = ((u / 10 : Nat) : Int) from rfl]; unfold wrap64; omega
    have e2 : Int.tmod (-(u : Int)) 10 = -((u % 10 : Nat) : Int) := by
      rw [Int.neg_tmod]; rfl
    rw [if_pos (by omega), e, Lib.decDigits]
    by_cases h' : u < 10
    · rw [if_pos (by omega), dif_pos h', Option.bind_some, byte_num u h' _ (by rw [e2]; unfold wrap64; omega), if_pos (by simp [ByteArray.size])]
      congr 1
    · match j, h, hk, hj with
      | 0, h, _, _ => exact absurd (by simpa using h) h'
      | j + 1, h, hk, hj =>
        have hl := dig_len j (u / 10) (by rw [Nat.pow_succ] at h; omega)
        rw [if_neg (by omega), dif_neg h', digits_neg j m (u / 10) (by omega) (by rw [Nat.pow_succ] at h; omega) (by omega) (by omega) (by omega), Option.bind_some, Option.bind_some, byte_num (u % 10) (by omega) _ (by rw [e2]; unfold wrap64; omega)]
        rw [if_pos (by simp [ByteArray.size]; omega)]
        congr 1
theorem digits_spec (k : Nat) (n : Int) (h0 : -9223372036854775808 ≤ n) (h1 : n ≤ 9223372036854775807) (hk : 30 ≤ k) : covenantref01_Digits.f k n = some ⟨(Lib.itoa n).toArray⟩ := by
  unfold Lib.itoa
  by_cases h : n < 0
  · rw [if_pos h]
    have := digits_neg 19 k n.natAbs (by omega) (by have : n.natAbs ≤ 9223372036854775808 := by omega
                                                    exact Nat.lt_of_le_of_lt this (by decide)) (by omega) (by omega) (by omega)
    rw [show -((n.natAbs : Nat) : Int) = n by omega] at this
    exact this
  · rw [if_neg h]
    have := digits_pos 19 k n.toNat (by have : n.toNat ≤ 9223372036854775807 := by omega
                                        exact Nat.lt_of_le_of_lt this (by decide)) (by omega) (by omega) (by omega)
    rw [show ((n.toNat : Nat) : Int) = n by omega] at this
    exact this
theorem itoa_len (n : Int) (h0 : -9223372036854775808 ≤ n) (h1 : n ≤ 9223372036854775807) : (Lib.itoa n).length ≤ 21 := by
  unfold Lib.itoa
  split
  · have := dig_len 19 n.natAbs (by have : n.natAbs ≤ 9223372036854775808 := by omega
                                    exact Nat.lt_of_le_of_lt this (by decide))
    simp; omega
  · have := dig_len 19 n.toNat (by have : n.toNat ≤ 9223372036854775807 := by omega
                                   exact Nat.lt_of_le_of_lt this (by decide))
    omega

/-! ### which stands ahead -/
def sgn (a b : Int) : Int := if a < b then -1 else if a > b then 1 else 0
theorem sgn_zero {a b : Int} : sgn a b = 0 ↔ a = b := by unfold sgn; split <;> (try split) <;> omega
theorem cmp8 (a b : Int) : cmp_Compare_uint8.f a b = some (sgn a b) := by
  unfold cmp_Compare_uint8.f cmp_isNaN_uint8.f sgn
  have h (x : Int) : (x != x) = false := by simp
  simp only [h, Option.bind_some]
  rw [if_neg (by decide), if_neg (by decide)]
  split
  · rfl
  · split <;> rfl
theorem cmp64 (a b : Int) : cmp_Compare_int64.f a b = some (sgn a b) := by
  unfold cmp_Compare_int64.f cmp_isNaN_int64.f sgn
  have h (x : Int) : (x != x) = false := by simp
  simp only [h, Option.bind_some]
  rw [if_neg (by decide), if_neg (by decide)]
  split
  · rfl
  · split <;> rfl
theorem first4 (k : Nat) (a b c d : Int) (hk : 5 ≤ k) : value_first_int.f k [a, b, c, d] = some (if a ≠ 0 then a else if b ≠ 0 then b else if c ≠ 0 then c else d) := by
  obtain ⟨m, rfl⟩ : ∃ m, k = m + 5 := ⟨k - 5, by omega⟩
  unfold value_first_int.f
  by_cases h1 : a = 0
  · by_cases h2 : b = 0
    · by_cases h3 : c = 0
      · by_cases h4 : d = 0
        · simp [value_first_int.l0, rd, wrap64, h1, h2, h3, h4]
        · simp [value_first_int.l0, rd, wrap64, h1, h2, h3, h4]
      · simp [value_first_int.l0, rd, wrap64, h1, h2, h3]
    · simp [value_first_int.l0, rd, wrap64, h1, h2]
  · simp [value_first_int.l0, rd, wrap64, h1]
def cmpV (x y : S23) : Int := if sgn x.f0 y.f0 ≠ 0 then sgn x.f0 y.f0 else if sgn x.f1 y.f1 ≠ 0 then sgn x.f1 y.f1 else if sgn x.f2 y.f2 ≠ 0 then sgn x.f2 y.f2 else Lib.compareBytes x.f3.data.toList y.f3.data.toList
theorem compare_spec (k : Nat) (x y : S23) (hk : 5 ≤ k) : value_Compare.f k x.f0 x.f1 x.f2 x.f3 y.f0 y.f1 y.f2 y.f3 = some (cmpV x y) := by
  unfold value_Compare.f strings_Compare.f cmpV
  simp only [cmp8, cmp64, Option.bind_some]
  rw [first4 _ _ _ _ _ hk]
  rfl
theorem bt_nat {s : ByteArray} {i : Nat} (h : i < s.size) : bt s (i : Int) = (s.data.toList[i]'(by simpa using h)).toNat := by
  unfold bt
  rw [dif_pos (by simpa using h)]
  simp
  rfl
theorem ref_cmp_from (a0 a1 a2 b0 b1 b2 : Int) (s t : ByteArray) (hs : s.size ≤ 100000) (ht : t.size ≤ 100000) : ∀ (d k i : Nat), i + d = s.size → 2 * d + 2 ≤ k → i ≤ t.size →
    covenantref01_Compare.l0 k (i : Int) a0 a1 a2 s b0 b1 b2 t = some (Lib.compareBytes (s.data.toList.drop i) (t.data.toList.drop i))
  | d, k, i, h, hk, hi => by
    obtain ⟨m, rfl⟩ : ∃ m, k = m + 2 := ⟨k - 2, by omega⟩
    have hsl : s.data.toList.length = s.size := by simp
    have htl : t.data.toList.length = t.size := by simp
    simp only [covenantref01_Compare.l0]
    by_cases h1 : i < s.size
    · rw [if_pos (by omega)]
      simp only [covenantref01_Compare.j1]
      by_cases h2 : i < t.size
      · rw [if_pos (by simpa using h2), if_pos (by omega), if_pos (by omega), if_pos (by omega), bt_nat h1, bt_nat h2, List.drop_eq_getElem_cons (by omega : i < s.data.toList.length), List.drop_eq_getElem_cons (by omega : i < t.data.toList.length), Lib.compareBytes]
        by_cases c1 : s.data.toList[i] < t.data.toList[i]
        · rw [if_pos (by have := UInt8.lt_iff_toNat_lt.1 c1; omega), if_pos c1]
        · rw [if_neg (by have := mt UInt8.lt_iff_toNat_lt.2 c1; omega), if_neg c1]
          by_cases c2 : t.data.toList[i] < s.data.toList[i]
          · rw [if_pos (by have := UInt8.lt_iff_toNat_lt.1 c2; omega), if_pos c2]
          · rw [if_neg (by have := mt UInt8.lt_iff_toNat_lt.2 c2; omega), if_neg c2]
            match d, h with
            | 0, h => omega
            | d + 1, h =>
              rw [show wrap64 ((i : Int) + 1) = ((i + 1 : Nat) : Int) by unfold wrap64; omega]
              exact ref_cmp_from a0 a1 a2 b0 b1 b2 s t hs ht d m (i + 1) (by omega) (by omega) (by omega)
      · rw [if_neg (by simpa using h2), if_neg (by omega), if_pos (by omega), List.drop_eq_getElem_cons (by omega : i < s.data.toList.length), List.drop_of_length_le (by omega : t.data.toList.length ≤ i)]
        rfl
    · rw [if_neg (by omega)]
      simp only [covenantref01_Compare.j1]
      rw [if_neg (by decide), List.drop_of_length_le (by omega : s.data.toList.length ≤ i)]
      by_cases h2 : i < t.size
      · rw [if_pos (by omega), List.drop_eq_getElem_cons (by omega : i < t.data.toList.length)]
        rfl
      · rw [if_neg (by omega), if_neg (by omega), List.drop_of_length_le (by omega : t.data.toList.length ≤ i)]
        rfl
theorem ref_compare_spec (k : Nat) (x y : S23) (hx : x.f3.size ≤ 100000) (hy : y.f3.size ≤ 100000) (hk : 2 * x.f3.size + 2 ≤ k) : covenantref01_Compare.f k x.f0 x.f1 x.f2 x.f3 y.f0 y.f1 y.f2 y.f3 = some (cmpV x y) := by
  unfold covenantref01_Compare.f cmpV
  by_cases h0 : x.f0 = y.f0
  · rw [if_pos h0, if_neg (show ¬ (sgn x.f0 y.f0 ≠ 0) from fun h => h (sgn_zero.2 h0))]
    by_cases h1 : x.f1 = y.f1
    · rw [if_pos h1, if_neg (show ¬ (sgn x.f1 y.f1 ≠ 0) from fun h => h (sgn_zero.2 h1))]
      by_cases h2 : x.f2 = y.f2
      · rw [if_pos h2, if_neg (show ¬ (sgn x.f2 y.f2 ≠ 0) from fun h => h (sgn_zero.2 h2))]
        exact ref_cmp_from _ _ _ _ _ _ x.f3 y.f3 hx hy x.f3.size k 0 (by omega) (by omega) (by omega)
      · rw [if_neg h2, if_pos (mt sgn_zero.1 h2)]
        unfold sgn
        split
        · rfl
        · rw [if_pos (by omega)]
    · rw [if_neg h1, if_pos (mt sgn_zero.1 h1)]
      unfold sgn
      split
      · rfl
      · rw [if_pos (by omega)]
  · rw [if_neg h0, if_pos (mt sgn_zero.1 h0)]
    unfold sgn
    split
    · rfl
    · rw [if_pos (by omega)]

/-! ### texts -/
def dbl (l : List UInt8) : List UInt8 := l.flatMap fun c => if c = 39 then [39, 39] else [c]
theorem idx_nil : Lib.index [] [39] = -1 := by decide
theorem idx_hit (t : List UInt8) : Lib.index (39 :: t) [39] = 0 := by simp [Lib.index, List.isPrefixOf]
theorem idx_miss {c : UInt8} (t : List UInt8) (h : c ≠ 39) : Lib.index (c :: t) [39] = if Lib.index t [39] = -1 then -1 else Lib.index t [39] + 1 := by
  rw [Lib.index, if_neg (by simp [List.isPrefixOf]; exact fun e => h e.symm)]
  by_cases e : Lib.index t [39] = -1
  · simp [e]
  · simp [e]
theorem count_quotes : ∀ (l : List UInt8) (f : Nat), l.length ≤ f → Lib.countFrom [39] f l = l.count 39
  | [], 0, _ => rfl
  | [], f + 1, _ => by simp [Lib.countFrom, idx_nil]
  | c :: t, f + 1, h => by
    by_cases hc : c = 39
    · subst hc
      rw [Lib.countFrom, idx_hit, if_neg (by decide)]
      simp only [Int.toNat_zero, Nat.zero_add, List.length_singleton, List.drop_one, List.tail_cons, List.count_cons_self]
      rw [count_quotes t f (by simpa using h)]
      omega
    · have e1 : Lib.countFrom [39] (f + 1) (c :: t) = Lib.countFrom [39] (f + 1) t := by
        rw [Lib.countFrom, Lib.countFrom, idx_miss t hc]
        have hg := Lib.index_ge t [39]
        by_cases e : Lib.index t [39] = -1
        · simp [e]
        · rw [if_neg e]
          have e2 : ((Lib.index t [39] + 1 == -1) = true) = False := by simp; omega
          have e3 : ((Lib.index t [39] == -1) = true) = False := by simp [e]
          simp only [e2, e3, if_false]
          rw [show (Lib.index t [39] + 1).toNat + ([39] : List UInt8).length = ((Lib.index t [39]).toNat + ([39] : List UInt8).length) + 1 by omega, List.drop_succ_cons]
      rw [e1, count_quotes t (f + 1) (by simp at h; omega), List.count_cons_of_ne (fun e => hc e)]
theorem replace_quotes : ∀ (l : List UInt8) (k : Nat), l.count 39 ≤ k → Lib.replaceK [39] [39, 39] k l = dbl l
  | [], 0, _ => rfl
  | [], k + 1, _ => by simp [Lib.replaceK, idx_nil, dbl]
  | c :: t, k, h => by
    by_cases hc : c = 39
    · subst hc
      rw [List.count_cons_self] at h
      obtain ⟨m, rfl⟩ : ∃ m, k = m + 1 := ⟨k - 1, by omega⟩
      rw [Lib.replaceK, idx_hit, if_neg (by decide)]
      simp only [Int.toNat_zero, Nat.zero_add, List.length_singleton, List.drop_one, List.tail_cons, List.take_zero, List.nil_append]
      rw [replace_quotes t m (by omega)]
      simp [dbl]
    · rw [List.count_cons_of_ne (fun e => hc e)] at h
      have e1 : Lib.replaceK [39] [39, 39] k (c :: t) = c :: Lib.replaceK [39] [39, 39] k t := by
        cases k with
        | zero => rfl
        | succ k =>
          rw [Lib.replaceK, Lib.replaceK, idx_miss t hc]
          have hg := Lib.index_ge t [39]
          by_cases e : Lib.index t [39] = -1
          · simp [e]
          · rw [if_neg e]
            have e2 : ((Lib.index t [39] + 1 == -1) = true) = False := by simp; omega
            have e3 : ((Lib.index t [39] == -1) = true) = False := by simp [e]
            simp only [e2, e3, if_false]
            rw [show (Lib.index t [39] + 1).toNat = (Lib.index t [39]).toNat + 1 by omega]
            simp only [List.take_succ_cons, List.cons_append]
            rw [show (Lib.index t [39]).toNat + 1 + ([39] : List UInt8).length = ((Lib.index t [39]).toNat + ([39] : List UInt8).length) + 1 by omega, List.drop_succ_cons]
      rw [e1, replace_quotes t k h]
      simp [dbl, hc]
theorem replaceAll_quotes (l : List UInt8) : Lib.replaceAll l [39] [39, 39] = dbl l := by
  unfold Lib.replaceAll Lib.replace Lib.replaceNum
  rw [if_neg (by decide), if_pos (by omega)]
  refine replace_quotes l _ ?_
  unfold Lib.count
  rw [count_quotes l _ (by omega)]
  exact Nat.le_refl _
theorem dbl_len (l : List UInt8) : (dbl l).length ≤ 2 * l.length := by
  induction l with
  | nil => simp [dbl]
  | cons c t ih =>
    unfold dbl at ih ⊢
    rw [List.flatMap_cons, List.length_append]
    simp only [List.length_cons]
    split
    · simp only [List.length_cons, List.length_nil]; omega
    · simp only [List.length_cons, List.length_nil]; omega
/-- The text of a value, byte by byte. -/
def textV (x : S23) : List UInt8 :=
  if ¬ MayV x.f0 x.f1 x.f2 x.f3 then [] else if x.f0 = 0 then [110, 117, 108, 108] else if x.f0 = 2 then (if x.f1 = 1 then [121, 101, 115] else [110, 111]) else
  if x.f0 = 3 then 39 :: dbl x.f3.data.toList ++ [39] else if x.f0 = 4 then 91 :: Lib.itoa x.f1 ++ [44] ++ Lib.itoa x.f2 ++ [41] else Lib.itoa x.f1
theorem text_spec (k : Nat) (x : S23) (hf : FitV x) (hk : 1 ≤ k) : value_Text.f k x.f0 x.f1 x.f2 x.f3 = some ⟨(textV x).toArray⟩ := by
  obtain ⟨m, rfl⟩ : ∃ m, k = m + 1 := ⟨k - 1, by omega⟩
  obtain ⟨_, w1, w2, _⟩ := hf
  have b1 : -9223372036854775808 ≤ x.f1 ∧ x.f1 ≤ 9223372036854775807 := by simpa [Lit.wf, IntKind.min, IntKind.max, IntKind.signed, IntKind.bits] using w1
  have b2 : -9223372036854775808 ≤ x.f2 ∧ x.f2 ≤ 9223372036854775807 := by simpa [Lit.wf, IntKind.min, IntKind.max, IntKind.signed, IntKind.bits] using w2
  have l1 := itoa_len x.f1 b1.1 b1.2
  have l2 := itoa_len x.f2 b2.1 b2.2
  unfold value_Text.f
  rw [may_spec _ _ _ _ b1.1 b1.2, Option.bind_some]
  by_cases hm : MayV x.f0 x.f1 x.f2 x.f3
  · rw [if_pos (by simpa using hm)]
    by_cases e0 : x.f0 = 0
    · have ht : textV x = [110, 117, 108, 108] := by unfold textV; rw [if_neg (fun h => h hm), if_pos e0]
      rw [if_pos e0, ht]
    rw [if_neg e0]
    by_cases e2 : x.f0 = 2
    · rw [if_pos e2]
      simp only [value_Text.j0]
      by_cases h1 : x.f1 = 1
      · have ht : textV x = [121, 101, 115] := by unfold textV; rw [if_neg (fun h => h hm), if_neg e0, if_pos e2, if_pos h1]
        rw [if_pos (by simpa using h1), ht]
      · have ht : textV x = [110, 111] := by unfold textV; rw [if_neg (fun h => h hm), if_neg e0, if_pos e2, if_neg h1]
        rw [if_neg (by simpa using h1), if_pos e2, ht]
    rw [if_neg e2]
    simp only [value_Text.j0]
    rw [if_neg (by decide), if_neg e2]
    by_cases e3 : x.f0 = 3
    · have ht : textV x = 39 :: dbl x.f3.data.toList ++ [39] := by unfold textV; rw [if_neg (fun h => h hm), if_neg e0, if_neg e2, if_pos e3]
      rw [if_pos e3, ht]
      have hs : x.f3.size ≤ 256 := by
        rcases hm with h | h | h | h | h <;> omega
      have hc := Lib.countB_le ⟨#[39]⟩ (by decide) x.f3.size x.f3 (Nat.le_refl _)
      have h1 : strings_ReplaceAll.f x.f3 ⟨#[39]⟩ ⟨#[39, 39]⟩ = some ⟨(dbl x.f3.data.toList).toArray⟩ := by
        unfold strings_ReplaceAll.f
        rw [if_pos ⟨by omega, by decide, by rw [show (⟨#[39, 39]⟩ : ByteArray).size = 2 from rfl]; omega⟩, show (⟨#[39]⟩ : ByteArray).data.toList = [39] from rfl, show (⟨#[39, 39]⟩ : ByteArray).data.toList = [39, 39] from rfl, replaceAll_quotes]
      have hl := dbl_len x.f3.data.toList
      have hsl : x.f3.data.toList.length = x.f3.size := by simp
      rw [h1, Option.bind_some, if_pos (by simp [ByteArray.size]; omega), if_pos (by simp [ByteArray.size]; omega)]
      congr 1
    rw [if_neg e3]
    by_cases e4 : x.f0 = 4
    · have ht : textV x = 91 :: Lib.itoa x.f1 ++ [44] ++ Lib.itoa x.f2 ++ [41] := by unfold textV; rw [if_neg (fun h => h hm), if_neg e0, if_neg e2, if_neg e3, if_pos e4]
      rw [if_pos e4, ht]
      unfold value_digits.f
      rw [if_pos b1, if_pos b2]
      simp only [Option.bind_some]
      rw [if_pos (by simp [ByteArray.size]; omega), if_pos (by simp [ByteArray.size]; omega), if_pos (by simp [ByteArray.size]; omega), if_pos (by simp [ByteArray.size]; omega)]
      congr 1
    · have ht : textV x = Lib.itoa x.f1 := by unfold textV; rw [if_neg (fun h => h hm), if_neg e0, if_neg e2, if_neg e3, if_neg e4]
      rw [if_neg e4, ht]
      unfold value_digits.f
      rw [if_pos b1]
      rfl
  · have ht : textV x = [] := by unfold textV; rw [if_pos hm]
    rw [if_neg (by simpa using hm), ht]

theorem ext_one (s : ByteArray) (i : Nat) (h : i < s.size) : (s.extract i (i + 1)).data.toList = [s.data.toList[i]'(by simpa using h)] := by
  have h' : i < s.data.toList.length := by simpa using h
  rw [ByteArray.data_extract, Array.toList_extract, List.extract_eq_take_drop, show i + 1 - i = 1 by omega, List.drop_eq_getElem_cons h']
  rfl
theorem ref_text_from (a b c d0 : Int) (s : ByteArray) (hs : s.size ≤ 100000) : ∀ (d k i : Nat) (x3 : ByteArray), i + d = s.size → d + 1 ≤ k → x3.size ≤ 2 * i + 1 →
    covenantref01_Text.l0 k x3 (i : Int) a b c s = some ⟨(x3.data.toList ++ dbl (s.data.toList.drop i) ++ [39]).toArray⟩
  | 0, k, i, x3, h, hk, hx => by
    obtain ⟨m, rfl⟩ : ∃ m, k = m + 1 := ⟨k - 1, by omega⟩
    have hsl : s.data.toList.length = s.size := by simp
    simp only [covenantref01_Text.l0]
    rw [if_neg (by omega), if_pos (by omega), List.drop_of_length_le (by omega)]
    congr 1
    exact ba_eq (by simp [dbl])
  | d + 1, k, i, x3, h, hk, hx => by
    obtain ⟨m, rfl⟩ : ∃ m, k = m + 1 := ⟨k - 1, by omega⟩
    have hsl : s.data.toList.length = s.size := by simp
    have hi : i < s.size := by omega
    have w1 : wrap64 ((i : Int) + 1) = ((i + 1 : Nat) : Int) := by unfold wrap64; omega
    have he := ext_one s i hi
    have hz : (s.extract i (i + 1)).size = 1 := by
      have h2 : (s.extract i (i + 1)).data.toList.length = 1 := by rw [he]; rfl
      rw [Array.length_toList] at h2
      exact h2
    simp only [covenantref01_Text.l0]
    rw [w1, if_pos (by omega), if_pos (by omega), if_pos (by omega), if_pos (by omega)]
    simp only [Int.toNat_natCast]
    rw [hz, if_pos (by omega), bt_nat hi, List.drop_eq_getElem_cons (by omega : i < s.data.toList.length)]
    by_cases c39 : s.data.toList[i] = 39
    · rw [if_pos (by rw [c39]; rfl), if_pos (by rw [ByteArray.size_append, hz]; omega)]
      rw [ref_text_from a b c d0 s hs d m (i + 1) _ (by omega) (by omega) (by rw [ByteArray.size_append, ByteArray.size_append, hz, show (⟨#[39]⟩ : ByteArray).size = 1 from rfl]; omega)]
      congr 1
      refine ba_eq ?_
      simp only [ByteArray.data_append, Array.toList_append, he, dbl, List.flatMap_cons, c39, if_true, List.append_assoc]
      rfl
    · rw [if_neg (fun e => c39 (UInt8.toNat_inj.1 (show s.data.toList[i].toNat = (39 : UInt8).toNat from Int.ofNat.inj e)))]
      rw [ref_text_from a b c d0 s hs d m (i + 1) _ (by omega) (by omega) (by rw [ByteArray.size_append, hz]; omega)]
      congr 1
      refine ba_eq ?_
      simp only [ByteArray.data_append, Array.toList_append, he, dbl, List.flatMap_cons, c39, if_false, List.append_assoc]

theorem ref_text_spec (k : Nat) (x : S23) (hf : FitV x) (hk : 400 ≤ k) : covenantref01_Text.f k x.f0 x.f1 x.f2 x.f3 = some ⟨(textV x).toArray⟩ := by
  obtain ⟨m, rfl⟩ : ∃ m, k = m + 1 := ⟨k - 1, by omega⟩
  obtain ⟨_, w1, w2, _⟩ := hf
  have b1 : -9223372036854775808 ≤ x.f1 ∧ x.f1 ≤ 9223372036854775807 := by simpa [Lit.wf, IntKind.min, IntKind.max, IntKind.signed, IntKind.bits] using w1
  have b2 : -9223372036854775808 ≤ x.f2 ∧ x.f2 ≤ 9223372036854775807 := by simpa [Lit.wf, IntKind.min, IntKind.max, IntKind.signed, IntKind.bits] using w2
  have l1 := itoa_len x.f1 b1.1 b1.2
  have l2 := itoa_len x.f2 b2.1 b2.2
  unfold covenantref01_Text.f
  rw [ref_may_spec, Option.bind_some]
  by_cases hm : MayV x.f0 x.f1 x.f2 x.f3
  · rw [if_pos (by simpa using hm)]
    by_cases e0 : x.f0 = 0
    · have ht : textV x = [110, 117, 108, 108] := by unfold textV; rw [if_neg (fun h => h hm), if_pos e0]
      rw [if_pos e0, ht]
    rw [if_neg e0]
    by_cases e1 : x.f0 = 1
    · have ht : textV x = Lib.itoa x.f1 := by unfold textV; rw [if_neg (fun h => h hm), if_neg e0, if_neg (by omega), if_neg (by omega), if_neg (by omega)]
      rw [if_pos e1, digits_spec _ _ b1.1 b1.2 (by omega), Option.bind_some, ht]
    rw [if_neg e1]
    by_cases e2 : x.f0 = 2
    · rw [if_pos e2]
      by_cases h1 : x.f1 = 1
      · have ht : textV x = [121, 101, 115] := by unfold textV; rw [if_neg (fun h => h hm), if_neg e0, if_pos e2, if_pos h1]
        rw [if_pos h1, ht]
      · have ht : textV x = [110, 111] := by unfold textV; rw [if_neg (fun h => h hm), if_neg e0, if_pos e2, if_neg h1]
        rw [if_neg h1, ht]
    rw [if_neg e2]
    by_cases e4 : x.f0 = 4
    · have ht : textV x = 91 :: Lib.itoa x.f1 ++ [44] ++ Lib.itoa x.f2 ++ [41] := by unfold textV; rw [if_neg (fun h => h hm), if_neg e0, if_neg e2, if_neg (by omega), if_pos e4]
      rw [if_pos e4, ht, digits_spec _ _ b1.1 b1.2 (by omega), digits_spec _ _ b2.1 b2.2 (by omega)]
      simp only [Option.bind_some]
      rw [if_pos (by simp [ByteArray.size]; omega), if_pos (by simp [ByteArray.size]; omega), if_pos (by simp [ByteArray.size]; omega), if_pos (by simp [ByteArray.size]; omega)]
      congr 1
    rw [if_neg e4]
    have h3 : x.f0 = 3 := by
      rcases hm with h | h | h | h | h <;> omega
    have hs : x.f3.size ≤ 256 := by
      rcases hm with h | h | h | h | h <;> omega
    have ht : textV x = 39 :: dbl x.f3.data.toList ++ [39] := by unfold textV; rw [if_neg (fun h => h hm), if_neg e0, if_neg e2, if_pos h3]
    rw [show (0 : Int) = ((0 : Nat) : Int) from rfl, ref_text_from x.f0 x.f1 x.f2 0 x.f3 (by omega) x.f3.size (m + 1) 0 _ (by omega) (by omega) (by decide), ht]
    rfl
  · have ht : textV x = [] := by unfold textV; rw [if_pos hm]
    rw [if_neg (by simpa using hm), ht]
theorem ValueTells_pure (x y : S23) (t : Int) (hx : FitV x) (w3 : x.f3.size ≤ 140737488355328) (w4 : y.f3.size ≤ 140737488355328) : covenantlaw01_ValueTells.f 20000 x.f0 x.f1 x.f2 x.f3 y.f0 y.f1 y.f2 y.f3 t = some true := by
  have w1 := hx.2.1
  have b1 : -9223372036854775808 ≤ x.f1 ∧ x.f1 ≤ 9223372036854775807 := by simpa [Lit.wf, IntKind.min, IntKind.max, IntKind.signed, IntKind.bits] using w1
  unfold covenantlaw01_ValueTells.f
  by_cases h : wrap64 ((x.f3.size : Int) + (y.f3.size : Int)) > 5000
  · rw [if_pos h]
  · have hs : x.f3.size + y.f3.size ≤ 5000 := by unfold wrap64 at h; omega
    rw [if_neg h, may_spec _ _ _ _ b1.1 b1.2, ref_may_spec, fits_spec _ _ _ _ _ _ b1.1 b1.2, compare_spec _ _ _ (by omega), ref_compare_spec _ _ _ (by omega) (by omega) (by omega), text_spec _ _ hx (by omega), ref_text_spec _ _ hx (by omega)]
    simp only [Option.bind_some, beq_self_eq_true, if_true]
    have hfit : ∃ b, value_Fits.f x.f0 x.f1 x.f2 x.f3 t = some b := by
      unfold value_Fits.f
      rw [may_spec _ _ _ _ b1.1 b1.2, Option.bind_some]
      repeat' split
      all_goals exact ⟨_, rfl⟩
    obtain ⟨b, hb⟩ := hfit
    rw [hb]
    simp
end Go.Proofs.YtddmllocjocipaaDoor.D
