/- A value's text is read back as the value; what a text may say. Conditions: as each theorem states them (texts of no more than a thousand million bytes). -/
import Derived.Test.YtddmllocjocipaaDoorTxt
import Derived.Test.YtddmllocjocipaaDoorDx12
import Derived.Lib.ReplaceLaws
import Derived.Lib.IndexMore
namespace Go.Proofs.YtddmllocjocipaaDoor.D
open Go.RowKit Go.Proofs.YtddmllocjocipaaDoorW.PrintWords Go.Proofs.YtddmllocjocipaaDoorW.PrintLast Go.Proofs.YtddmllocjocipaaDoorW.PrintMore
set_option linter.unusedSimpArgs false
set_option linter.unusedVariables false
theorem idx2_nil : Lib.index [] [39, 39] = -1 := by decide
theorem idx2_hit (t : List UInt8) : Lib.index (39 :: 39 :: t) [39, 39] = 0 := by simp [Lib.index, List.isPrefixOf]
theorem idx2_miss {c : UInt8} (t : List UInt8) (h : c ≠ 39) : Lib.index (c :: t) [39, 39] = if Lib.index t [39, 39] = -1 then -1 else Lib.index t [39, 39] + 1 := by
  rw [Lib.index, if_neg (by simp [List.isPrefixOf]; exact fun e => absurd e.symm h)]
  by_cases e : Lib.index t [39, 39] = -1
  · simp [e]
  · simp [e]
theorem dbl_quote (t : List UInt8) : dbl (39 :: t) = 39 :: 39 :: dbl t := by rw [dbl_cons, if_pos rfl]; rfl
theorem dbl_other {c : UInt8} (t : List UInt8) (h : c ≠ 39) : dbl (c :: t) = c :: dbl t := by rw [dbl_cons, if_neg h]; rfl
theorem count_pairs : ∀ (l : List UInt8) (f : Nat), l.length ≤ f → Lib.countFrom [39, 39] f (dbl l) = l.count 39
  | [], 0, _ => rfl
  | [], f + 1, _ => by
    rw [Lib.countFrom, show dbl [] = [] from rfl, idx2_nil]; rfl
  | c :: t, f + 1, h => by
    by_cases hc : c = 39
    · subst hc
      rw [dbl_quote, Lib.countFrom, idx2_hit, if_neg (by decide)]
      simp only [Int.toNat_zero, Nat.zero_add, List.length_cons, List.length_nil, List.drop_succ_cons, List.drop_zero, List.count_cons_self]
      rw [count_pairs t f (by simpa using h)]
      omega
    · have e1 : Lib.countFrom [39, 39] (f + 1) (dbl (c :: t)) = Lib.countFrom [39, 39] (f + 1) (dbl t) := by
        rw [dbl_other t hc, Lib.countFrom, Lib.countFrom, idx2_miss _ hc]
        have hg := Lib.index_ge (dbl t) [39, 39]
        by_cases e : Lib.index (dbl t) [39, 39] = -1
        · simp [e]
        · rw [if_neg e]
          have e2 : ((Lib.index (dbl t) [39, 39] + 1 == -1) = true) = False := by simp; omega
          have e3 : ((Lib.index (dbl t) [39, 39] == -1) = true) = False := by simp [e]
          simp only [e2, e3, if_false]
          rw [show (Lib.index (dbl t) [39, 39] + 1).toNat + ([39, 39] : List UInt8).length = ((Lib.index (dbl t) [39, 39]).toNat + ([39, 39] : List UInt8).length) + 1 by omega, List.drop_succ_cons]
      rw [e1, count_pairs t (f + 1) (by simp at h; omega), List.count_cons_of_ne (fun e => hc e)]
theorem replace_pairs : ∀ (l : List UInt8) (k : Nat), l.count 39 ≤ k → Lib.replaceK [39, 39] [39] k (dbl l) = l
  | [], 0, _ => rfl
  | [], k + 1, _ => by
    rw [Lib.replaceK, show dbl [] = [] from rfl, idx2_nil]; rfl
  | c :: t, k, h => by
    by_cases hc : c = 39
    · subst hc
      rw [List.count_cons_self] at h
      obtain ⟨m, rfl⟩ : ∃ m, k = m + 1 := ⟨k - 1, by omega⟩
      rw [dbl_quote, Lib.replaceK, idx2_hit, if_neg (by decide)]
      simp only [Int.toNat_zero, Nat.zero_add, List.length_cons, List.length_nil, List.drop_succ_cons, List.drop_zero, List.take_zero, List.nil_append]
      rw [replace_pairs t m (by omega)]
      rfl
    · rw [List.count_cons_of_ne (fun e => hc e)] at h
      have e1 : Lib.replaceK [39, 39] [39] k (dbl (c :: t)) = c :: Lib.replaceK [39, 39] [39] k (dbl t) := by
        rw [dbl_other t hc]
        cases k with
        | zero => rfl
        | succ k =>
          rw [Lib.replaceK, Lib.replaceK, idx2_miss _ hc]
          have hg := Lib.index_ge (dbl t) [39, 39]
          by_cases e : Lib.index (dbl t) [39, 39] = -1
          · simp [e]
          · rw [if_neg e]
            have e2 : ((Lib.index (dbl t) [39, 39] + 1 == -1) = true) = False := by simp; omega
            have e3 : ((Lib.index (dbl t) [39, 39] == -1) = true) = False := by simp [e]
            simp only [e2, e3, if_false]
            rw [show (Lib.index (dbl t) [39, 39] + 1).toNat = (Lib.index (dbl t) [39, 39]).toNat + 1 by omega]
            simp only [List.take_succ_cons, List.cons_append]
            rw [show (Lib.index (dbl t) [39, 39]).toNat + 1 + ([39, 39] : List UInt8).length = ((Lib.index (dbl t) [39, 39]).toNat + ([39, 39] : List UInt8).length) + 1 by omega, List.drop_succ_cons]
      rw [e1, replace_pairs t k h]
theorem dbl_ge : ∀ l : List UInt8, l.length ≤ (dbl l).length
  | [] => Nat.zero_le _
  | c :: t => by
    have ih := dbl_ge t
    rw [dbl_cons, List.length_append, List.length_cons]
    split
    · simp only [List.length_cons, List.length_nil]; omega
    · simp only [List.length_cons, List.length_nil]; omega
theorem replaceAll_pairs (l : List UInt8) : Lib.replaceAll (dbl l) [39, 39] [39] = l := by
  unfold Lib.replaceAll Lib.replace Lib.replaceNum
  rw [if_neg (by decide), if_pos (by omega)]
  refine replace_pairs l _ ?_
  unfold Lib.count
  have := dbl_ge l
  rw [count_pairs l _ (by omega)]
  exact Nat.le_refl _
/-! ### numbers -/
theorem uint_append (M : Nat) : ∀ (a b : List UInt8) (acc v : Nat), Lib.parseUintM M acc a = .ok v → Lib.parseUintM M acc (a ++ b) = Lib.parseUintM M v b
  | [], b, acc, v, h => by simp only [Lib.parseUintM] at h; injection h with h; subst h; rfl
  | c :: a, b, acc, v, h => by
    rw [List.cons_append]
    simp only [Lib.parseUintM] at h ⊢
    split at h
    · rename_i h1
      rw [if_pos h1]
      split at h
      · cases h
      · rename_i h2
        rw [if_neg h2]
        split at h
        · cases h
        · rename_i h3
          rw [if_neg h3]
          exact uint_append M a b _ v h
    · cases h
theorem uint_dec (u : Nat) (hu : u ≤ 18446744073709551615) : Lib.parseUintM (2 ^ 64 - 1) 0 (Lib.decDigits u) = .ok u := by
  induction u using Nat.strongRecOn with
  | _ u ih =>
    rw [Lib.decDigits]
    split
    · next h =>
      simp only [Lib.parseUintM]
      rw [byte48 h, if_pos (by omega), if_neg (by omega), if_neg (by omega)]
      congr 1; omega
    · next h =>
      rw [uint_append _ _ _ _ _ (ih (u / 10) (by omega) (by omega))]
      simp only [Lib.parseUintM]
      rw [byte48 (by omega), if_pos (by omega), if_neg (by omega), if_neg (by omega)]
      congr 1; omega
theorem parse_itoa (n : Int) (h0 : -9223372036854775808 ≤ n) (h1 : n ≤ 9223372036854775807) : Lib.parseIntB 64 (Lib.itoa n) = .ok n := by
  unfold Lib.itoa
  split
  · next h =>
    simp only [Lib.parseIntB]
    rw [if_pos (by right; decide), Lib.parseUintB, if_neg (dec_ne _), uint_dec _ (by omega)]
    simp only
    rw [if_neg (by simp), if_neg (by simp; omega)]
    rw [if_pos (by decide)]
    congr 1; omega
  · next h =>
    obtain ⟨c, r, hc⟩ : ∃ c r, Lib.decDigits n.toNat = c :: r := by
      cases e : Lib.decDigits n.toNat with
      | nil => exact absurd e (dec_ne _)
      | cons c r => exact ⟨c, r, rfl⟩
    have hm := dec_mem n.toNat c (by rw [hc]; simp)
    have hd := uint_dec n.toNat (by omega)
    rw [hc] at hd ⊢
    simp only [Lib.parseIntB]
    rw [if_neg (by omega), Lib.parseUintB, if_neg (by simp), hd]
    simp only
    rw [if_neg (by omega), if_neg (by omega), if_neg (by omega)]
    congr 1; omega
theorem numOf_itoa (n : Int) (h0 : -9223372036854775808 ≤ n) (h1 : n ≤ 9223372036854775807) : numOf (Lib.itoa n) = n := by
  unfold numOf; rw [parse_itoa n h0 h1]
theorem index_skip (c : UInt8) : ∀ (a b : List UInt8), (∀ x ∈ a, x ≠ c) → Lib.index (a ++ c :: b) [c] = a.length
  | [], b, _ => by rw [List.nil_append]; simp [Lib.index, List.isPrefixOf]
  | x :: a, b, h => by
    have ih := index_skip c a b (fun y hy => h y (List.mem_cons_of_mem _ hy))
    rw [List.cons_append, Lib.index, if_neg (by simp [List.isPrefixOf]; exact fun e => h x (by simp) e.symm), ih]
    first | (simp; done) | (simp; omega)
theorem cut_comma (a b : List UInt8) (h : ∀ x ∈ a, x ≠ 44) : Lib.cut (a ++ 44 :: b) [44] = (a, b, true) := by
  unfold Lib.cut
  rw [index_skip 44 a b h, if_pos (by omega)]
  simp
/-! ### what a text may say -/
theorem prefix_one (s : ByteArray) (c : UInt8) : strings_HasPrefix.f s ⟨#[c]⟩ = some (s.data.toList.head? == some c) := by
  unfold strings_HasPrefix.f stringslite_HasPrefix.f
  have e1 : ((⟨#[c]⟩ : ByteArray).size : Int) = 1 := rfl
  rw [e1]
  obtain ⟨⟨l⟩⟩ := s
  cases l with
  | nil => rw [if_neg (by simp [ByteArray.size])]; rfl
  | cons d l =>
    have hs : ((⟨⟨d :: l⟩⟩ : ByteArray).size : Int) = l.length + 1 := by simp [ByteArray.size]
    rw [hs, if_pos (by omega), if_pos (by omega), if_pos (by omega), Option.bind_some]
    congr 1
    rw [tl_eq, tl_eq]
    simp [ByteArray.data_extract]
theorem numOf_fit (l : List UInt8) : -9223372036854775808 ≤ numOf l ∧ numOf l ≤ 9223372036854775807 := by
  unfold numOf
  cases h : Lib.parseIntB 64 l with
  | ok v =>
    simp only
    unfold Lib.parseIntB at h
    cases l with
    | nil => cases h
    | cons c r =>
      simp only at h
      split at h
      · cases h
      · cases h
      · split at h
        · cases h
        · split at h
          · cases h
          · injection h with h; subst h; split <;> omega
  | range => simp only; unfold Lib.intSat; split <;> decide
  | _ => simp
theorem parse_int (s : ByteArray) (h : s.size ≤ 281474976710656) : strconv_ParseInt_102.f s 10 64 = some (numOf s.data.toList, none) := by
  unfold strconv_ParseInt_102.f; rw [if_pos ⟨rfl, rfl, h⟩]
theorem replaceK_len : ∀ (k : Nat) (s : List UInt8), (Lib.replaceK [39, 39] [39] k s).length ≤ s.length
  | 0, s => Nat.le_refl _
  | k + 1, s => by
    rw [Lib.replaceK]
    split
    · exact Nat.le_refl _
    · next h =>
      have hg := Lib.index_ge s [39, 39]
      have hr := Lib.index_room s [39, 39] (by simp at h; omega)
      have e2 : ([39, 39] : List UInt8).length = 2 := rfl
      have ih := replaceK_len k (s.drop ((Lib.index s [39, 39]).toNat + 2))
      rw [e2] at hr ⊢
      simp only [List.length_append, List.length_take, List.length_singleton]
      rw [List.length_drop] at ih
      omega
theorem replaceAll_len (s : List UInt8) : (Lib.replaceAll s [39, 39] [39]).length ≤ s.length := by
  unfold Lib.replaceAll Lib.replace
  rw [if_neg (by decide)]
  exact replaceK_len _ _
/-- What a text may say, by its bytes. -/
def readV (l : List UInt8) : S23 :=
  if l = [121, 101, 115] then ⟨2, 1, 0, ⟨#[]⟩⟩ else if l = [110, 111] then ⟨2, 0, 0, ⟨#[]⟩⟩ else
  if l.head? = some 39 ∧ 1 < l.length then ⟨3, 0, 0, ⟨(Lib.replaceAll ((l.drop 1).take (l.length - 2)) [39, 39] [39]).toArray⟩⟩ else
  if l.head? = some 91 ∧ 1 < l.length then ⟨4, numOf (Lib.cut ((l.drop 1).take (l.length - 2)) [44]).1, numOf (Lib.cut ((l.drop 1).take (l.length - 2)) [44]).2.1, ⟨#[]⟩⟩ else
  if l = [110, 117, 108, 108] then ⟨0, 0, 0, ⟨#[]⟩⟩ else ⟨1, numOf l, 0, ⟨#[]⟩⟩
theorem extract_mid (s : ByteArray) (n : Nat) (h : 1 < s.size) (hn : n = s.size - 1) : (s.extract 1 n).data.toList = (s.data.toList.drop 1).take (s.data.toList.length - 2) := by
  subst hn
  obtain ⟨⟨l⟩⟩ := s
  have hs : (⟨⟨l⟩⟩ : ByteArray).size = l.length := rfl
  rw [hs] at h ⊢
  rw [ByteArray.data_extract]
  simp only [Array.toList_extract, List.extract_eq_take_drop]
  congr 1
theorem cut_len (l : List UInt8) : (Lib.cut l [44]).1.length ≤ l.length ∧ (Lib.cut l [44]).2.1.length ≤ l.length := by
  unfold Lib.cut
  split <;> simp <;> omega
theorem mk_size (l : List UInt8) : (⟨l.toArray⟩ : ByteArray).size = l.length := by simp [ByteArray.size]
theorem read_spec (k : Nat) (s : ByteArray) (hk : 1 ≤ k) (hs : s.size ≤ 1000000000) (h1 : s.data.toList ≠ [91]) : value_read.f k s = some ((readV s.data.toList).f0, (readV s.data.toList).f1, (readV s.data.toList).f2, (readV s.data.toList).f3) := by
  obtain ⟨m, rfl⟩ : ∃ m, k = m + 1 := ⟨k - 1, by omega⟩
  have hl : s.data.toList.length = s.size := by simp
  have hw : wrap64 ((s.size : Int) - 1) = (s.size : Int) - 1 := by unfold wrap64; omega
  unfold value_read.f readV
  rw [tl_eq, prefix_one]
  simp only [Option.bind_some]
  by_cases e1 : s.data.toList = [121, 101, 115]
  · rw [if_pos e1, if_pos e1]
  rw [if_neg e1, if_neg e1]
  by_cases e2 : s.data.toList = [110, 111]
  · rw [if_pos e2, if_pos e2]
  rw [if_neg e2, if_neg e2]
  have rest : value_read.j0 (m + 1) s false = some ((if s.data.toList.head? = some 91 ∧ 1 < s.data.toList.length then (⟨4, numOf (Lib.cut ((s.data.toList.drop 1).take (s.data.toList.length - 2)) [44]).1, numOf (Lib.cut ((s.data.toList.drop 1).take (s.data.toList.length - 2)) [44]).2.1, ⟨#[]⟩⟩ : S23) else if s.data.toList = [110, 117, 108, 108] then ⟨0, 0, 0, ⟨#[]⟩⟩ else ⟨1, numOf s.data.toList, 0, ⟨#[]⟩⟩).f0,
      (if s.data.toList.head? = some 91 ∧ 1 < s.data.toList.length then (⟨4, numOf (Lib.cut ((s.data.toList.drop 1).take (s.data.toList.length - 2)) [44]).1, numOf (Lib.cut ((s.data.toList.drop 1).take (s.data.toList.length - 2)) [44]).2.1, ⟨#[]⟩⟩ : S23) else if s.data.toList = [110, 117, 108, 108] then ⟨0, 0, 0, ⟨#[]⟩⟩ else ⟨1, numOf s.data.toList, 0, ⟨#[]⟩⟩).f1,
      (if s.data.toList.head? = some 91 ∧ 1 < s.data.toList.length then (⟨4, numOf (Lib.cut ((s.data.toList.drop 1).take (s.data.toList.length - 2)) [44]).1, numOf (Lib.cut ((s.data.toList.drop 1).take (s.data.toList.length - 2)) [44]).2.1, ⟨#[]⟩⟩ : S23) else if s.data.toList = [110, 117, 108, 108] then ⟨0, 0, 0, ⟨#[]⟩⟩ else ⟨1, numOf s.data.toList, 0, ⟨#[]⟩⟩).f2,
      (if s.data.toList.head? = some 91 ∧ 1 < s.data.toList.length then (⟨4, numOf (Lib.cut ((s.data.toList.drop 1).take (s.data.toList.length - 2)) [44]).1, numOf (Lib.cut ((s.data.toList.drop 1).take (s.data.toList.length - 2)) [44]).2.1, ⟨#[]⟩⟩ : S23) else if s.data.toList = [110, 117, 108, 108] then ⟨0, 0, 0, ⟨#[]⟩⟩ else ⟨1, numOf s.data.toList, 0, ⟨#[]⟩⟩).f3) := by
    simp only [value_read.j0]
    rw [if_neg (by decide), prefix_one, Option.bind_some]
    by_cases e4 : s.data.toList.head? = some 91
    · have hlen : 1 < s.data.toList.length := by
        cases h : s.data.toList with
        | nil => rw [h] at e4; cases e4
        | cons c t =>
          cases t with
          | nil => rw [h] at e4 h1; simp at e4; subst e4; exact absurd rfl h1
          | cons d t => simp
      have he := extract_mid s (((s.size : Int) - 1).toNat) (by omega) (by omega)
      have hz : (s.extract 1 (((s.size : Int) - 1).toNat)).size ≤ 1000000000 := by simp only [ByteArray.size_extract]; omega
      have hc := cut_len ((s.data.toList.drop 1).take (s.data.toList.length - 2))
      have hc2 : ((s.data.toList.drop 1).take (s.data.toList.length - 2)).length ≤ 1000000000 := by simp; omega
      rw [if_pos (show (s.data.toList.head? == some 91) = true from beq_iff_eq.2 e4), hw, if_pos (by omega), if_pos (by omega), if_pos ⟨e4, hlen⟩]
      unfold strings_Cut.f
      rw [if_pos (by omega), he, Option.bind_some]
      simp only [show (⟨#[44]⟩ : ByteArray).data.toList = [44] from rfl]
      rw [parse_int _ (by rw [mk_size]; omega), parse_int _ (by rw [mk_size]; omega)]
      rfl
    · rw [if_neg (show ¬ (s.data.toList.head? == some 91) = true from fun h => e4 (beq_iff_eq.1 h)), if_neg (show ¬ (s.data.toList.head? = some 91 ∧ 1 < s.data.toList.length) from fun h => e4 h.1), tl_eq]
      by_cases e5 : s.data.toList = [110, 117, 108, 108]
      · rw [if_pos e5, if_pos e5]
      · rw [if_neg e5, if_neg e5, parse_int _ (by omega)]
        rfl
  by_cases e3 : s.data.toList.head? = some 39
  · rw [if_pos (show (s.data.toList.head? == some 39) = true from beq_iff_eq.2 e3)]
    by_cases hlen : 1 < s.data.toList.length
    · rw [if_pos ⟨e3, hlen⟩]
      have he := extract_mid s (((s.size : Int) - 1).toNat) (by omega) (by omega)
      have hz : (s.extract 1 (((s.size : Int) - 1).toNat)).size ≤ 1000000000 := by simp only [ByteArray.size_extract]; omega
      have hcb := Lib.countB_le ⟨#[39, 39]⟩ (by decide) _ (s.extract 1 (((s.size : Int) - 1).toNat)) (Nat.le_refl _)
      rw [show decide ((s.size : Int) > 1) = true from decide_eq_true (by omega)]
      simp only [value_read.j0]
      rw [if_pos trivial, hw, if_pos (by omega), if_pos (by omega)]
      unfold strings_ReplaceAll.f
      rw [if_pos ⟨by omega, by decide, by rw [show (⟨#[39]⟩ : ByteArray).size = 1 from rfl]; omega⟩, he, Option.bind_some]
      all_goals rfl
    · rw [if_neg (fun h => hlen h.2), show decide ((s.size : Int) > 1) = false from decide_eq_false (by omega)]
      exact rest
  · rw [if_neg (show ¬ (s.data.toList.head? == some 39) = true from fun h => e3 (beq_iff_eq.1 h)), if_neg (show ¬ (s.data.toList.head? = some 39 ∧ 1 < s.data.toList.length) from fun h => e3 h.1)]
    exact rest
theorem read_fit (l : List UInt8) (h : l.length ≤ 1000000000) : FitV (readV l) := by
  have w (n : Int) (h0 : -9223372036854775808 ≤ n) (h1 : n ≤ 9223372036854775807) : (Lit.int .i64 n).wf = true := by
    simp [Lit.wf, IntKind.min, IntKind.max, IntKind.signed, IntKind.bits]; exact ⟨h0, h1⟩
  have nf := fun l => numOf_fit l
  have z : (Lit.int .i64 0).wf = true := by decide
  have e : (⟨#[]⟩ : ByteArray).size ≤ maxLen := by decide
  have v (a : Int) (h : a = 0 ∨ a = 1 ∨ a = 2 ∨ a = 3 ∨ a = 4) : (Lit.int .u8 a).wf = true := by
    rcases h with rfl | rfl | rfl | rfl | rfl <;> decide
  unfold readV
  split
  · exact ⟨by decide, by decide, by decide, by decide⟩
  split
  · exact ⟨by decide, by decide, by decide, by decide⟩
  split
  · refine ⟨v 3 (by simp), z, z, ?_⟩
    have := replaceAll_len ((l.drop 1).take (l.length - 2))
    simp only [mk_size]
    simp only [List.length_take, List.length_drop] at this
    unfold maxLen
    omega
  split
  · exact ⟨v 4 (by simp), w _ (nf _).1 (nf _).2, w _ (nf _).1 (nf _).2, e⟩
  split
  · exact ⟨by decide, by decide, by decide, by decide⟩
  · exact ⟨v 1 (by simp), w _ (nf _).1 (nf _).2, z, e⟩
theorem textV_ne {x : S23} (h : MayV x.f0 x.f1 x.f2 x.f3) : textV x ≠ [] := by
  rcases may_cases h with ⟨rfl, e⟩ | ⟨n, rfl, e⟩ | ⟨rfl, e⟩ | ⟨rfl, e⟩ | ⟨s, rfl, e⟩ | ⟨n, m, rfl, e⟩ <;> rw [e] <;> first | exact itoa_ne n | simp
theorem textV_none {x : S23} (h : ¬ MayV x.f0 x.f1 x.f2 x.f3) : textV x = [] := by unfold textV; rw [if_pos h]
/-- The value of a value's text is the value. -/
theorem read_text {x : S23} (hf : FitV x) (h : MayV x.f0 x.f1 x.f2 x.f3) : readV (textV x) = x := by
  have b1 : -9223372036854775808 ≤ x.f1 ∧ x.f1 ≤ 9223372036854775807 := by simpa [Lit.wf, IntKind.min, IntKind.max, IntKind.signed, IntKind.bits] using hf.2.1
  have b2 : -9223372036854775808 ≤ x.f2 ∧ x.f2 ≤ 9223372036854775807 := by simpa [Lit.wf, IntKind.min, IntKind.max, IntKind.signed, IntKind.bits] using hf.2.2.1
  clear hf
  rcases may_cases h with ⟨rfl, e⟩ | ⟨n, rfl, e⟩ | ⟨rfl, e⟩ | ⟨rfl, e⟩ | ⟨s, rfl, e⟩ | ⟨n, m, rfl, e⟩ <;> rw [e] <;> clear e h
  · unfold readV; rw [if_neg (by decide), if_neg (by decide), if_neg (by decide), if_neg (by decide), if_pos (by decide)]
  · have hn : ∀ c : UInt8, ¬ (c.toNat = 45 ∨ (48 ≤ c.toNat ∧ c.toNat ≤ 57)) → (Lib.itoa n).head? ≠ some c := by
      intro c hc e
      cases h : Lib.itoa n with
      | nil => exact itoa_ne n h
      | cons d l => rw [h] at e; simp at e; subst e; exact hc (itoa_head h)
    unfold readV
    rw [if_neg (itoa_not n _ _ (by decide)), if_neg (itoa_not n _ _ (by decide)), if_neg (fun h => hn 39 (by decide) h.1), if_neg (fun h => hn 91 (by decide) h.1), if_neg (itoa_not n _ _ (by decide)), numOf_itoa n b1.1 b1.2]
  · rfl
  · rfl
  · unfold readV
    rw [if_neg (by simp), if_neg (by simp), if_pos ⟨by simp, by simp⟩]
    have : ((39 :: dbl s.data.toList ++ [39]).drop 1).take ((39 :: dbl s.data.toList ++ [39]).length - 2) = dbl s.data.toList := by simp
    rw [this, replaceAll_pairs]
  · unfold readV
    rw [if_neg (by simp), if_neg (by simp), if_neg (by simp), if_pos ⟨by simp, by simp; omega⟩]
    have : ((91 :: Lib.itoa n ++ [44] ++ Lib.itoa m ++ [41]).drop 1).take ((91 :: Lib.itoa n ++ [44] ++ Lib.itoa m ++ [41]).length - 2) = Lib.itoa n ++ 44 :: Lib.itoa m := by
      rw [show (91 :: Lib.itoa n ++ [44] ++ Lib.itoa m ++ [41] : List UInt8) = 91 :: ((Lib.itoa n ++ 44 :: Lib.itoa m) ++ [41]) by simp]
      rw [List.drop_one, List.tail_cons]
      rw [List.take_append_of_le_length (by simp), List.take_of_length_le (by simp)]
    rw [this, cut_comma _ _ (itoa_comma n), numOf_itoa n b1.1 b1.2, numOf_itoa m b2.1 b2.2]
/-- Is a text a value's? -/
def isText (l : List UInt8) : Bool := decide (l ≠ [] ∧ textV (readV l) = l)
theorem parse_spec (k : Nat) (s : ByteArray) (hk : 1 ≤ k) (hs : s.size ≤ 1000000000) : value_Parse.f k s = some (if isText s.data.toList then ((readV s.data.toList).f0, (readV s.data.toList).f1, (readV s.data.toList).f2, (readV s.data.toList).f3, 0) else (0, 0, 0, ⟨#[]⟩, 4)) := by
  have hl : s.data.toList.length = s.size := by simp
  unfold value_Parse.f
  rw [tl_eq]
  by_cases e1 : s.data.toList = [91]
  · rw [if_pos e1, e1]
    have : isText [91] = false := by
      unfold isText
      rw [decide_eq_false_iff_not]
      rintro ⟨-, h⟩
      by_cases hm : MayV (readV [91]).f0 (readV [91]).f1 (readV [91]).f2 (readV [91]).f3
      · have hr : readV [91] = ⟨1, numOf [91], 0, ⟨#[]⟩⟩ := by unfold readV; rw [if_neg (by decide), if_neg (by decide), if_neg (by decide), if_neg (by decide), if_neg (by decide)]
        rcases may_cases hm with ⟨h2, e⟩ | ⟨n, h2, e⟩ | ⟨h2, e⟩ | ⟨h2, e⟩ | ⟨s, h2, e⟩ | ⟨n, m, h2, e⟩
        · rw [hr] at h2; injection h2 with h3; cases h3
        · rw [e] at h; exact itoa_not n _ _ (by decide) h
        · rw [hr] at h2; injection h2 with h3; cases h3
        · rw [hr] at h2; injection h2 with h3; cases h3
        · rw [hr] at h2; injection h2 with h3; cases h3
        · rw [hr] at h2; injection h2 with h3; cases h3
      · rw [textV_none hm] at h; cases h
    rw [this]; rfl
  · rw [if_neg e1, read_spec k s hk hs e1, Option.bind_some]
    by_cases e2 : s.data.toList = []
    · rw [if_pos e2, e2, show isText [] = false by unfold isText; simp]; rfl
    · rw [if_neg e2]
      simp only
      rw [text_spec k (readV s.data.toList) (read_fit _ (by omega)) hk, Option.bind_some, tl_eq]
      unfold isText
      by_cases e3 : textV (readV s.data.toList) = s.data.toList
      · rw [if_pos (by simpa using e3), if_pos (decide_eq_true ⟨e2, e3⟩)]
      · rw [if_neg (by simpa using e3), if_neg (fun h => e3 (of_decide_eq_true h).2)]
theorem isText_text {x : S23} (hf : FitV x) (h : MayV x.f0 x.f1 x.f2 x.f3) : isText (textV x) = true := by
  unfold isText; rw [read_text hf h]; simpa using textV_ne h
end Go.Proofs.YtddmllocjocipaaDoor.D
