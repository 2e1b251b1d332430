/- A value's text, byte by byte; unlike values that may be have unlike texts. Conditions: as each theorem states them. -/
import Derived.Test.YtddmllocjocipaaDoorMay
import Derived.Test.YtddmllocjocipaaDoorDx6
import Derived.Lib.ReplaceLaws
import Derived.Lib.SplitLaws
import Derived.Lib.IndexBytes
namespace Go.Proofs.YtddmllocjocipaaDoor.D
open Go.RowKit Go.Proofs.YtddmllocjocipaaDoorW.PrintWords Go.Proofs.YtddmllocjocipaaDoorW.PrintLast Go.Proofs.YtddmllocjocipaaDoorW.PrintMore
set_option linter.unusedSimpArgs false
theorem dig_len : ∀ (j u : Nat), u < 10 ^ (j + 1) → (Lib.decDigits u).length ≤ j + 1
  | 0, u, h => by rw [Lib.decDigits, dif_pos (by simpa using h)]; simp
  | j + 1, u, h => by
    rw [Lib.decDigits]
    split
    · simp
    · have := dig_len j (u / 10) (by rw [Nat.pow_succ] at h; omega)
      simp; omega
theorem itoa_len (n : Int) (h0 : -9223372036854775808 ≤ n) (h1 : n ≤ 9223372036854775807) : (Lib.itoa n).length ≤ 21 := by
  unfold Lib.itoa
  split
  · have := dig_len 19 n.natAbs (by have : n.natAbs ≤ 9223372036854775808 := by omega
                                    exact Nat.lt_of_le_of_lt this (by decide))
    simp; omega
  · have := dig_len 19 n.toNat (by have : n.toNat ≤ 9223372036854775807 := by omega
                                   exact Nat.lt_of_le_of_lt this (by decide))
    omega

/-! ### texts -/
def dbl (l : List UInt8) : List UInt8 := l.flatMap fun c => if c = 39 then [39, 39] else [c]
theorem idx_nil : Lib.index [] [39] = -1 := by decide
theorem idx_hit (t : List UInt8) : Lib.index (39 :: t) [39] = 0 := by simp [Lib.index, List.isPrefixOf]
theorem idx_miss {c : UInt8} (t : List UInt8) (h : c ≠ 39) : Lib.index (c :: t) [39] = if Lib.index t [39] = -1 then -1 else Lib.index t [39] + 1 := by
  rw [Lib.index, if_neg (by simp [List.isPrefixOf]; exact fun e => h e.symm)]
  by_cases e : Lib.index t [39] = -1
  · simp [e]
  · simp [e]
theorem count_quotes : ∀ (l : List UInt8) (f : Nat), l.length ≤ f → Lib.countFrom [39] f l = l.count 39
  | [], 0, _ => rfl
  | [], f + 1, _ => by simp [Lib.countFrom, idx_nil]
  | c :: t, f + 1, h => by
    by_cases hc : c = 39
    · subst hc
      rw [Lib.countFrom, idx_hit, if_neg (by decide)]
      simp only [Int.toNat_zero, Nat.zero_add, List.length_singleton, List.drop_one, List.tail_cons, List.count_cons_self]
      rw [count_quotes t f (by simpa using h)]
      omega
    · have e1 : Lib.countFrom [39] (f + 1) (c :: t) = Lib.countFrom [39] (f + 1) t := by
        rw [Lib.countFrom, Lib.countFrom, idx_miss t hc]
        have hg := Lib.index_ge t [39]
        by_cases e : Lib.index t [39] = -1
        · simp [e]
        · rw [if_neg e]
          have e2 : ((Lib.index t [39] + 1 == -1) = true) = False := by simp; omega
          have e3 : ((Lib.index t [39] == -1) = true) = False := by simp [e]
          simp only [e2, e3, if_false]
          rw [show (Lib.index t [39] + 1).toNat + ([39] : List UInt8).length = ((Lib.index t [39]).toNat + ([39] : List UInt8).length) + 1 by omega, List.drop_succ_cons]
      rw [e1, count_quotes t (f + 1) (by simp at h; omega), List.count_cons_of_ne (fun e => hc e)]
theorem replace_quotes : ∀ (l : List UInt8) (k : Nat), l.count 39 ≤ k → Lib.replaceK [39] [39, 39] k l = dbl l
  | [], 0, _ => rfl
  | [], k + 1, _ => by simp [Lib.replaceK, idx_nil, dbl]
  | c :: t, k, h => by
    by_cases hc : c = 39
    · subst hc
      rw [List.count_cons_self] at h
      obtain ⟨m, rfl⟩ : ∃ m, k = m + 1 := ⟨k - 1, by omega⟩
      rw [Lib.replaceK, idx_hit, if_neg (by decide)]
      simp only [Int.toNat_zero, Nat.zero_add, List.length_singleton, List.drop_one, List.tail_cons, List.take_zero, List.nil_append]
      rw [replace_quotes t m (by omega)]
      simp [dbl]
    · rw [List.count_cons_of_ne (fun e => hc e)] at h
      have e1 : Lib.replaceK [39] [39, 39] k (c :: t) = c :: Lib.replaceK [39] [39, 39] k t := by
        cases k with
        | zero => rfl
        | succ k =>
          rw [Lib.replaceK, Lib.replaceK, idx_miss t hc]
          have hg := Lib.index_ge t [39]
          by_cases e : Lib.index t [39] = -1
          · simp [e]
          · rw [if_neg e]
            have e2 : ((Lib.index t [39] + 1 == -1) = true) = False := by simp; omega
            have e3 : ((Lib.index t [39] == -1) = true) = False := by simp [e]
            simp only [e2, e3, if_false]
            rw [show (Lib.index t [39] + 1).toNat = (Lib.index t [39]).toNat + 1 by omega]
            simp only [List.take_succ_cons, List.cons_append]
            rw [show (Lib.index t [39]).toNat + 1 + ([39] : List UInt8).length = ((Lib.index t [39]).toNat + ([39] : List UInt8).length) + 1 by omega, List.drop_succ_cons]
      rw [e1, replace_quotes t k h]
      simp [dbl, hc]
theorem replaceAll_quotes (l : List UInt8) : Lib.replaceAll l [39] [39, 39] = dbl l := by
  unfold Lib.replaceAll Lib.replace Lib.replaceNum
  rw [if_neg (by decide), if_pos (by omega)]
  refine replace_quotes l _ ?_
  unfold Lib.count
  rw [count_quotes l _ (by omega)]
  exact Nat.le_refl _
theorem dbl_len (l : List UInt8) : (dbl l).length ≤ 2 * l.length := by
  induction l with
  | nil => simp [dbl]
  | cons c t ih =>
    unfold dbl at ih ⊢
    rw [List.flatMap_cons, List.length_append]
    simp only [List.length_cons]
    split
    · simp only [List.length_cons, List.length_nil]; omega
    · simp only [List.length_cons, List.length_nil]; omega
/-- The text of a value, byte by byte. -/
def textV (x : S23) : List UInt8 :=
  if ¬ MayV x.f0 x.f1 x.f2 x.f3 then [] else if x.f0 = 0 then [110, 117, 108, 108] else if x.f0 = 2 then (if x.f1 = 1 then [121, 101, 115] else [110, 111]) else
  if x.f0 = 3 then 39 :: dbl x.f3.data.toList ++ [39] else if x.f0 = 4 then 91 :: Lib.itoa x.f1 ++ [44] ++ Lib.itoa x.f2 ++ [41] else Lib.itoa x.f1
theorem text_spec (k : Nat) (x : S23) (hf : FitV x) (hk : 1 ≤ k) : value_Text.f k x.f0 x.f1 x.f2 x.f3 = some ⟨(textV x).toArray⟩ := by
  obtain ⟨m, rfl⟩ : ∃ m, k = m + 1 := ⟨k - 1, by omega⟩
  obtain ⟨_, w1, w2, _⟩ := hf
  have b1 : -9223372036854775808 ≤ x.f1 ∧ x.f1 ≤ 9223372036854775807 := by simpa [Lit.wf, IntKind.min, IntKind.max, IntKind.signed, IntKind.bits] using w1
  have b2 : -9223372036854775808 ≤ x.f2 ∧ x.f2 ≤ 9223372036854775807 := by simpa [Lit.wf, IntKind.min, IntKind.max, IntKind.signed, IntKind.bits] using w2
  have l1 := itoa_len x.f1 b1.1 b1.2
  have l2 := itoa_len x.f2 b2.1 b2.2
  unfold value_Text.f
  rw [may_spec _ _ _ _ b1.1 b1.2, Option.bind_some]
  by_cases hm : MayV x.f0 x.f1 x.f2 x.f3
  · rw [if_pos (by simpa using hm)]
    by_cases e0 : x.f0 = 0
    · have ht : textV x = [110, 117, 108, 108] := by unfold textV; rw [if_neg (fun h => h hm), if_pos e0]
      rw [if_pos e0, ht]
    rw [if_neg e0]
    by_cases e2 : x.f0 = 2
    · rw [if_pos e2]
      simp only [value_Text.j0]
      by_cases h1 : x.f1 = 1
      · have ht : textV x = [121, 101, 115] := by unfold textV; rw [if_neg (fun h => h hm), if_neg e0, if_pos e2, if_pos h1]
        rw [if_pos (by simpa using h1), ht]
      · have ht : textV x = [110, 111] := by unfold textV; rw [if_neg (fun h => h hm), if_neg e0, if_pos e2, if_neg h1]
        rw [if_neg (by simpa using h1), if_pos e2, ht]
    rw [if_neg e2]
    simp only [value_Text.j0]
    rw [if_neg (by decide), if_neg e2]
    by_cases e3 : x.f0 = 3
    · have ht : textV x = 39 :: dbl x.f3.data.toList ++ [39] := by unfold textV; rw [if_neg (fun h => h hm), if_neg e0, if_neg e2, if_pos e3]
      rw [if_pos e3, ht]
      have hs : x.f3.size ≤ 256 := by
        rcases hm with h | h | h | h | h <;> omega
      have hc := Lib.countB_le ⟨#[39]⟩ (by decide) x.f3.size x.f3 (Nat.le_refl _)
      have h1 : strings_ReplaceAll.f x.f3 ⟨#[39]⟩ ⟨#[39, 39]⟩ = some ⟨(dbl x.f3.data.toList).toArray⟩ := by
        unfold strings_ReplaceAll.f
        rw [if_pos ⟨by omega, by decide, by rw [show (⟨#[39, 39]⟩ : ByteArray).size = 2 from rfl]; omega⟩, show (⟨#[39]⟩ : ByteArray).data.toList = [39] from rfl, show (⟨#[39, 39]⟩ : ByteArray).data.toList = [39, 39] from rfl, replaceAll_quotes]
      have hl := dbl_len x.f3.data.toList
      have hsl : x.f3.data.toList.length = x.f3.size := by simp
      rw [h1, Option.bind_some, if_pos (by simp [ByteArray.size]; omega), if_pos (by simp [ByteArray.size]; omega)]
      congr 1
    rw [if_neg e3]
    by_cases e4 : x.f0 = 4
    · have ht : textV x = 91 :: Lib.itoa x.f1 ++ [44] ++ Lib.itoa x.f2 ++ [41] := by unfold textV; rw [if_neg (fun h => h hm), if_neg e0, if_neg e2, if_neg e3, if_pos e4]
      rw [if_pos e4, ht]
      unfold value_digits.f
      rw [if_pos b1, if_pos b2]
      simp only [Option.bind_some]
      rw [if_pos (by simp [ByteArray.size]; omega), if_pos (by simp [ByteArray.size]; omega), if_pos (by simp [ByteArray.size]; omega), if_pos (by simp [ByteArray.size]; omega)]
      congr 1
    · have ht : textV x = Lib.itoa x.f1 := by unfold textV; rw [if_neg (fun h => h hm), if_neg e0, if_neg e2, if_neg e3, if_neg e4]
      rw [if_neg e4, ht]
      unfold value_digits.f
      rw [if_pos b1]
      rfl
  · have ht : textV x = [] := by unfold textV; rw [if_pos hm]
    rw [if_neg (by simpa using hm), ht]

theorem byte48 {d : Nat} (h : d < 10) : (UInt8.ofNat (48 + d)).toNat = 48 + d := by
  rw [UInt8.toNat_ofNat']; omega
theorem dec_mem (u : Nat) : ∀ c ∈ Lib.decDigits u, 48 ≤ c.toNat ∧ c.toNat ≤ 57 := by
  induction u using Nat.strongRecOn with
  | _ u ih =>
    intro c hc
    rw [Lib.decDigits] at hc
    split at hc
    · next h =>
      rw [List.mem_singleton] at hc
      rw [hc, byte48 h]; omega
    · next h =>
      rcases List.mem_append.1 hc with hc | hc
      · exact ih (u / 10) (by omega) c hc
      · rw [List.mem_singleton] at hc
        rw [hc, byte48 (by omega)]; omega
theorem itoa_mem (n : Int) : ∀ c ∈ Lib.itoa n, c.toNat = 45 ∨ (48 ≤ c.toNat ∧ c.toNat ≤ 57) := by
  intro c hc
  unfold Lib.itoa at hc
  split at hc
  · rcases List.mem_cons.1 hc with rfl | hc
    · left; rfl
    · right; exact dec_mem _ c hc
  · right; exact dec_mem _ c hc
/-- What a value that may be is, and its text. -/
theorem may_cases {x : S23} (h : MayV x.f0 x.f1 x.f2 x.f3) :
    (x = ⟨0, 0, 0, ⟨#[]⟩⟩ ∧ textV x = [110, 117, 108, 108]) ∨ (∃ n, x = ⟨1, n, 0, ⟨#[]⟩⟩ ∧ textV x = Lib.itoa n) ∨ (x = ⟨2, 1, 0, ⟨#[]⟩⟩ ∧ textV x = [121, 101, 115]) ∨ (x = ⟨2, 0, 0, ⟨#[]⟩⟩ ∧ textV x = [110, 111]) ∨
    (∃ s, x = ⟨3, 0, 0, s⟩ ∧ textV x = 39 :: dbl s.data.toList ++ [39]) ∨ (∃ n m, x = ⟨4, n, m, ⟨#[]⟩⟩ ∧ textV x = 91 :: Lib.itoa n ++ [44] ++ Lib.itoa m ++ [41]) := by
  obtain ⟨a, b, c, s⟩ := x
  have hm := h
  have em : ∀ s : ByteArray, s.toList = [] → s = ⟨#[]⟩ := fun s e => ba_eq (by rw [← tl_eq, e])
  unfold textV
  rw [if_neg (fun h => h hm)]
  simp only at h ⊢
  rcases h with ⟨rfl, rfl, rfl, e⟩ | ⟨rfl, rfl, e⟩ | ⟨rfl, e1, rfl, e⟩ | ⟨rfl, rfl, rfl, e⟩ | ⟨rfl, e, e2⟩
  · left; obtain rfl := em s e; exact ⟨rfl, rfl⟩
  · right; left; obtain rfl := em s e; exact ⟨b, rfl, by rw [if_neg (by decide), if_neg (by decide), if_neg (by decide), if_neg (by decide)]⟩
  · obtain rfl := em s e
    rcases e1 with rfl | rfl
    · right; right; right; left; exact ⟨rfl, rfl⟩
    · right; right; left; exact ⟨rfl, rfl⟩
  · right; right; right; right; left; exact ⟨s, rfl, by rw [if_neg (by decide), if_neg (by decide), if_pos rfl]⟩
  · right; right; right; right; right; obtain rfl := em s e; exact ⟨b, c, rfl, by rw [if_neg (by decide), if_neg (by decide), if_neg (by decide), if_pos rfl]⟩
theorem itoa_head {n : Int} {c : UInt8} {l : List UInt8} (h : Lib.itoa n = c :: l) : c.toNat = 45 ∨ (48 ≤ c.toNat ∧ c.toNat ≤ 57) := itoa_mem n c (by rw [h]; simp)
theorem itoa_not (n : Int) (c : UInt8) (l : List UInt8) (hc : ¬ (c.toNat = 45 ∨ (48 ≤ c.toNat ∧ c.toNat ≤ 57))) : Lib.itoa n ≠ c :: l := fun h => hc (itoa_head h)
end Go.Proofs.YtddmllocjocipaaDoor.D
