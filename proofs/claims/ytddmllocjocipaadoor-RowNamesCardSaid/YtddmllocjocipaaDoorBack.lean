/- A value's text is read back as the value; what a text may say. Conditions: as each theorem states them (texts of no more than a thousand million bytes). -/
import Derived.Test.YtddmllocjocipaaDoorTxt
import Derived.Test.YtddmllocjocipaaDoorDx12
import Derived.Lib.ReplaceLaws
import Derived.Lib.IndexMore
namespace Go.Proofs.YtddmllocjocipaaDoor.D
open Go.RowKit Go.Proofs.YtddmllocjocipaaDoorW.PrintWords Go.Proofs.YtddmllocjocipaaDoorW.PrintLast Go.Proofs.YtddmllocjocipaaDoorW.PrintMore
set_option linter.unusedSimpArgs false
set_option linter.unusedVariables false
/-! ### numbers -/
/-! ### what a text may say -/
theorem prefix_one (s : ByteArray) (c : UInt8) : strings_HasPrefix.f s ⟨#[c]⟩ = some (s.data.toList.head? == some c) := by
  unfold strings_HasPrefix.f stringslite_HasPrefix.f
  have e1 : ((⟨#[c]⟩ : ByteArray).size : Int) = 1 := rfl
  rw [e1]
  obtain ⟨⟨l⟩⟩ := s
  cases l with
  | nil => rw [if_neg (by simp [ByteArray.size])]; rfl
  | cons d l =>
    have hs : ((⟨⟨d :: l⟩⟩ : ByteArray).size : Int) = l.length + 1 := by simp [ByteArray.size]
    rw [hs, if_pos (by omega), if_pos (by omega), if_pos (by omega), Option.bind_some]
    congr 1
    rw [tl_eq, tl_eq]
    simp [ByteArray.data_extract]
theorem numOf_fit (l : List UInt8) : -9223372036854775808 ≤ numOf l ∧ numOf l ≤ 9223372036854775807 := by
  unfold numOf
  cases h : Lib.parseIntB 64 l with
  | ok v =>
    simp only
    unfold Lib.parseIntB at h
    cases l with
    | nil => cases h
    | cons c r =>
      simp only at h
      split at h
      · cases h
      · cases h
      · split at h
        · cases h
        · split at h
          · cases h
          · injection h with h; subst h; split <;> omega
  | range => simp only; unfold Lib.intSat; split <;> decide
  | _ => simp
theorem parse_int (s : ByteArray) (h : s.size ≤ 281474976710656) : strconv_ParseInt_102.f s 10 64 = some (numOf s.data.toList, none) := by
  unfold strconv_ParseInt_102.f; rw [if_pos ⟨rfl, rfl, h⟩]
theorem replaceK_len : ∀ (k : Nat) (s : List UInt8), (Lib.replaceK [39, 39] [39] k s).length ≤ s.length
  | 0, s => Nat.le_refl _
  | k + 1, s => by
    rw [Lib.replaceK]
    split
    · exact Nat.le_refl _
    · next h =>
      have hg := Lib.index_ge s [39, 39]
      have hr := Lib.index_room s [39, 39] (by simp at h; omega)
      have e2 : ([39, 39] : List UInt8).length = 2 := rfl
      have ih := replaceK_len k (s.drop ((Lib.index s [39, 39]).toNat + 2))
      rw [e2] at hr ⊢
      simp only [List.length_append, List.length_take, List.length_singleton]
      rw [List.length_drop] at ih
      omega
theorem replaceAll_len (s : List UInt8) : (Lib.replaceAll s [39, 39] [39]).length ≤ s.length := by
  unfold Lib.replaceAll Lib.replace
  rw [if_neg (by decide)]
  exact replaceK_len _ _
/-- What a text may say, by its bytes. -/
def readV (l : List UInt8) : S23 :=
  if l = [121, 101, 115] then ⟨2, 1, 0, ⟨#[]⟩⟩ else if l = [110, 111] then ⟨2, 0, 0, ⟨#[]⟩⟩ else
  if l.head? = some 39 ∧ 1 < l.length then ⟨3, 0, 0, ⟨(Lib.replaceAll ((l.drop 1).take (l.length - 2)) [39, 39] [39]).toArray⟩⟩ else
  if l.head? = some 91 ∧ 1 < l.length then ⟨4, numOf (Lib.cut ((l.drop 1).take (l.length - 2)) [44]).1, numOf (Lib.cut ((l.drop 1).take (l.length - 2)) [44]).2.1, ⟨#[]⟩⟩ else
  if l = [110, 117, 108, 108] then ⟨0, 0, 0, ⟨#[]⟩⟩ else ⟨1, numOf l, 0, ⟨#[]⟩⟩
theorem extract_mid (s : ByteArray) (n : Nat) (h : 1 < s.size) (hn : n = s.size - 1) : (s.extract 1 n).data.toList = (s.data.toList.drop 1).take (s.data.toList.length - 2) := by
  subst hn
  obtain ⟨⟨l⟩⟩ := s
  have hs : (⟨⟨l⟩⟩ : ByteArray).size = l.length := rfl
  rw [hs] at h ⊢
  rw [ByteArray.data_extract]
  simp only [Array.toList_extract, List.extract_eq_take_drop]
  congr 1
theorem cut_len (l : List UInt8) : (Lib.cut l [44]).1.length ≤ l.length ∧ (Lib.cut l [44]).2.1.length ≤ l.length := by
  unfold Lib.cut
  split <;> simp <;> omega
theorem mk_size (l : List UInt8) : (⟨l.toArray⟩ : ByteArray).size = l.length := by simp [ByteArray.size]
theorem read_spec (k : Nat) (s : ByteArray) (hk : 1 ≤ k) (hs : s.size ≤ 1000000000) (h1 : s.data.toList ≠ [91]) : value_read.f k s = some ((readV s.data.toList).f0, (readV s.data.toList).f1, (readV s.data.toList).f2, (readV s.data.toList).f3) := by
  obtain ⟨m, rfl⟩ : ∃ m, k = m + 1 := ⟨k - 1, by omega⟩
  have hl : s.data.toList.length = s.size := by simp
  have hw : wrap64 ((s.size : Int) - 1) = (s.size : Int) - 1 := by unfold wrap64; omega
  unfold value_read.f readV
  rw [tl_eq, prefix_one]
  simp only [Option.bind_some]
  by_cases e1 : s.data.toList = [121, 101, 115]
  · rw [if_pos e1, if_pos e1]
  rw [if_neg e1, if_neg e1]
  by_cases e2 : s.data.toList = [110, 111]
  · rw [if_pos e2, if_pos e2]
  rw [if_neg e2, if_neg e2]
  have rest : value_read.j0 (m + 1) s false = some ((if s.data.toList.head? = some 91 ∧ 1 < s.data.toList.length then (⟨4, numOf (Lib.cut ((s.data.toList.drop 1).take (s.data.toList.length - 2)) [44]).1, numOf (Lib.cut ((s.data.toList.drop 1).take (s.data.toList.length - 2)) [44]).2.1, ⟨#[]⟩⟩ : S23) else if s.data.toList = [110, 117, 108, 108] then ⟨0, 0, 0, ⟨#[]⟩⟩ else ⟨1, numOf s.data.toList, 0, ⟨#[]⟩⟩).f0,
      (if s.data.toList.head? = some 91 ∧ 1 < s.data.toList.length then (⟨4, numOf (Lib.cut ((s.data.toList.drop 1).take (s.data.toList.length - 2)) [44]).1, numOf (Lib.cut ((s.data.toList.drop 1).take (s.data.toList.length - 2)) [44]).2.1, ⟨#[]⟩⟩ : S23) else if s.data.toList = [110, 117, 108, 108] then ⟨0, 0, 0, ⟨#[]⟩⟩ else ⟨1, numOf s.data.toList, 0, ⟨#[]⟩⟩).f1,
      (if s.data.toList.head? = some 91 ∧ 1 < s.data.toList.length then (⟨4, numOf (Lib.cut ((s.data.toList.drop 1).take (s.data.toList.length - 2)) [44]).1, numOf (Lib.cut ((s.data.toList.drop 1).take (s.data.toList.length - 2)) [44]).2.1, ⟨#[]⟩⟩ : S23) else if s.data.toList = [110, 117, 108, 108] then ⟨0, 0, 0, ⟨#[]⟩⟩ else ⟨1, numOf s.data.toList, 0, ⟨#[]⟩⟩).f2,
      (if s.data.toList.head? = some 91 ∧ 1 < s.data.toList.length then (⟨4, numOf (Lib.cut ((s.data.toList.drop 1).take (s.data.toList.length - 2)) [44]).1, numOf (Lib.cut ((s.data.toList.drop 1).take (s.data.toList.length - 2)) [44]).2.1, ⟨#[]⟩⟩ : S23) else if s.data.toList = [110, 117, 108, 108] then ⟨0, 0, 0, ⟨#[]⟩⟩ else ⟨1, numOf s.data.toList, 0, ⟨#[]⟩⟩).f3) := by
    simp only [value_read.j0]
    rw [if_neg (by decide), prefix_one, Option.bind_some]
    by_cases e4 : s.data.toList.head? = some 91
    · have hlen : 1 < s.data.toList.length := by
        cases h : s.data.toList with
        | nil => rw [h] at e4; cases e4
        | cons c t =>
          cases t with
          | nil => rw [h] at e4 h1; simp at e4; subst e4; exact absurd rfl h1
          | cons d t => simp
      have he := extract_mid s (((s.size : Int) - 1).toNat) (by omega) (by omega)
      have hz : (s.extract 1 (((s.size : Int) - 1).toNat)).size ≤ 1000000000 := by simp only [ByteArray.size_extract]; omega
      have hc := cut_len ((s.data.toList.drop 1).take (s.data.toList.length - 2))
      have hc2 : ((s.data.toList.drop 1).take (s.data.toList.length - 2)).length ≤ 1000000000 := by simp; omega
      rw [if_pos (show (s.data.toList.head? == some 91) = true from beq_iff_eq.2 e4), hw, if_pos (by omega), if_pos (by omega), if_pos ⟨e4, hlen⟩]
      unfold strings_Cut.f
      rw [if_pos (by omega), he, Option.bind_some]
      simp only [show (⟨#[44]⟩ : ByteArray).data.toList = [44] from rfl]
      rw [parse_int _ (by rw [mk_size]; omega), parse_int _ (by rw [mk_size]; omega)]
      rfl
    · rw [if_neg (show ¬ (s.data.toList.head? == some 91) = true from fun h => e4 (beq_iff_eq.1 h)), if_neg (show ¬ (s.data.toList.head? = some 91 ∧ 1 < s.data.toList.length) from fun h => e4 h.1), tl_eq]
      by_cases e5 : s.data.toList = [110, 117, 108, 108]
      · rw [if_pos e5, if_pos e5]
      · rw [if_neg e5, if_neg e5, parse_int _ (by omega)]
        rfl
  by_cases e3 : s.data.toList.head? = some 39
  · rw [if_pos (show (s.data.toList.head? == some 39) = true from beq_iff_eq.2 e3)]
    by_cases hlen : 1 < s.data.toList.length
    · rw [if_pos ⟨e3, hlen⟩]
      have he := extract_mid s (((s.size : Int) - 1).toNat) (by omega) (by omega)
      have hz : (s.extract 1 (((s.size : Int) - 1).toNat)).size ≤ 1000000000 := by simp only [ByteArray.size_extract]; omega
      have hcb := Lib.countB_le ⟨#[39, 39]⟩ (by decide) _ (s.extract 1 (((s.size : Int) - 1).toNat)) (Nat.le_refl _)
      rw [show decide ((s.size : Int) > 1) = true from decide_eq_true (by omega)]
      simp only [value_read.j0]
      rw [if_pos trivial, hw, if_pos (by omega), if_pos (by omega)]
      unfold strings_ReplaceAll.f
      rw [if_pos ⟨by omega, by decide, by rw [show (⟨#[39]⟩ : ByteArray).size = 1 from rfl]; omega⟩, he, Option.bind_some]
      all_goals rfl
    · rw [if_neg (fun h => hlen h.2), show decide ((s.size : Int) > 1) = false from decide_eq_false (by omega)]
      exact rest
  · rw [if_neg (show ¬ (s.data.toList.head? == some 39) = true from fun h => e3 (beq_iff_eq.1 h)), if_neg (show ¬ (s.data.toList.head? = some 39 ∧ 1 < s.data.toList.length) from fun h => e3 h.1)]
    exact rest
theorem read_fit (l : List UInt8) (h : l.length ≤ 1000000000) : FitV (readV l) := by
  have w (n : Int) (h0 : -9223372036854775808 ≤ n) (h1 : n ≤ 9223372036854775807) : (Lit.int .i64 n).wf = true := by
    simp [Lit.wf, IntKind.min, IntKind.max, IntKind.signed, IntKind.bits]; exact ⟨h0, h1⟩
  have nf := fun l => numOf_fit l
  have z : (Lit.int .i64 0).wf = true := by decide
  have e : (⟨#[]⟩ : ByteArray).size ≤ maxLen := by decide
  have v (a : Int) (h : a = 0 ∨ a = 1 ∨ a = 2 ∨ a = 3 ∨ a = 4) : (Lit.int .u8 a).wf = true := by
    rcases h with rfl | rfl | rfl | rfl | rfl <;> decide
  unfold readV
  split
  · exact ⟨by decide, by decide, by decide, by decide⟩
  split
  · exact ⟨by decide, by decide, by decide, by decide⟩
  split
  · refine ⟨v 3 (by simp), z, z, ?_⟩
    have := replaceAll_len ((l.drop 1).take (l.length - 2))
    simp only [mk_size]
    simp only [List.length_take, List.length_drop] at this
    unfold maxLen
    omega
  split
  · exact ⟨v 4 (by simp), w _ (nf _).1 (nf _).2, w _ (nf _).1 (nf _).2, e⟩
  split
  · exact ⟨by decide, by decide, by decide, by decide⟩
  · exact ⟨v 1 (by simp), w _ (nf _).1 (nf _).2, z, e⟩
theorem textV_none {x : S23} (h : ¬ MayV x.f0 x.f1 x.f2 x.f3) : textV x = [] := by unfold textV; rw [if_pos h]
/-- Is a text a value's? -/
def isText (l : List UInt8) : Bool := decide (l ≠ [] ∧ textV (readV l) = l)
theorem parse_spec (k : Nat) (s : ByteArray) (hk : 1 ≤ k) (hs : s.size ≤ 1000000000) : value_Parse.f k s = some (if isText s.data.toList then ((readV s.data.toList).f0, (readV s.data.toList).f1, (readV s.data.toList).f2, (readV s.data.toList).f3, 0) else (0, 0, 0, ⟨#[]⟩, 4)) := by
  have hl : s.data.toList.length = s.size := by simp
  unfold value_Parse.f
  rw [tl_eq]
  by_cases e1 : s.data.toList = [91]
  · rw [if_pos e1, e1]
    have : isText [91] = false := by
      unfold isText
      rw [decide_eq_false_iff_not]
      rintro ⟨-, h⟩
      by_cases hm : MayV (readV [91]).f0 (readV [91]).f1 (readV [91]).f2 (readV [91]).f3
      · have hr : readV [91] = ⟨1, numOf [91], 0, ⟨#[]⟩⟩ := by unfold readV; rw [if_neg (by decide), if_neg (by decide), if_neg (by decide), if_neg (by decide), if_neg (by decide)]
        rcases may_cases hm with ⟨h2, e⟩ | ⟨n, h2, e⟩ | ⟨h2, e⟩ | ⟨h2, e⟩ | ⟨s, h2, e⟩ | ⟨n, m, h2, e⟩
        · rw [hr] at h2; injection h2 with h3; cases h3
        · rw [e] at h; exact itoa_not n _ _ (by decide) h
        · rw [hr] at h2; injection h2 with h3; cases h3
        · rw [hr] at h2; injection h2 with h3; cases h3
        · rw [hr] at h2; injection h2 with h3; cases h3
        · rw [hr] at h2; injection h2 with h3; cases h3
      · rw [textV_none hm] at h; cases h
    rw [this]; rfl
  · rw [if_neg e1, read_spec k s hk hs e1, Option.bind_some]
    by_cases e2 : s.data.toList = []
    · rw [if_pos e2, e2, show isText [] = false by unfold isText; simp]; rfl
    · rw [if_neg e2]
      simp only
      rw [text_spec k (readV s.data.toList) (read_fit _ (by omega)) hk, Option.bind_some, tl_eq]
      unfold isText
      by_cases e3 : textV (readV s.data.toList) = s.data.toList
      · rw [if_pos (by simpa using e3), if_pos (decide_eq_true ⟨e2, e3⟩)]
      · rw [if_neg (by simpa using e3), if_neg (fun h => e3 (of_decide_eq_true h).2)]
end Go.Proofs.YtddmllocjocipaaDoor.D
