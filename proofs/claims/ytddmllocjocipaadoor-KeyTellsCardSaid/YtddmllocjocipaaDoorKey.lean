/- What the functions of package key come to, over lists alone: which columns may be, a row's key, what is set, whether two are the same. Conditions: as each theorem states them (few columns, enough rounds). -/
import Derived.Test.YtddmllocjocipaaDoorRow
import Derived.Test.YtddmllocjocipaaDoorDx25
import Derived.Test.YtddmllocjocipaaDoorDx26
namespace Go.Proofs.YtddmllocjocipaaDoor.D
open Go.RowKit Go.Proofs.YtddmllocjocipaaDoorW.PrintWords Go.Proofs.YtddmllocjocipaaDoorW.PrintLast Go.Proofs.YtddmllocjocipaaDoorW.PrintMore
set_option linter.unusedSimpArgs false
set_option linter.unusedVariables false
theorem rd_nat {xs : List Int} {i : Nat} (h : i < xs.length) : rd xs (i : Int) = xs[i] := by simp [rd, List.getD, h]
/-! ### slices.Contains -/
theorem index_from (xs : List Int) (a : Int) (hn : xs.length < 1000000) : ∀ (d k i : Nat), i + d = xs.length → d < k →
    ∃ r : Int, slices_Index_int_int.l0 k xs a (xs.length : Int) (i : Int) = some r ∧ (0 ≤ r ↔ a ∈ xs.drop i)
  | 0, k, i, h, hk => by
    obtain ⟨m, rfl, _⟩ := fuel hk
    refine ⟨-1, ?_, ?_⟩
    · simp only [slices_Index_int_int.l0]; rw [if_neg (by omega)]
    · rw [List.drop_of_length_le (by omega)]; simp
  | d + 1, k, i, h, hk => by
    obtain ⟨m, rfl, hm⟩ := fuel hk
    have hi : i < xs.length := by omega
    simp only [slices_Index_int_int.l0]
    rw [if_pos (by omega), if_pos (by omega), if_pos (by omega), rd_nat hi, List.drop_eq_getElem_cons hi]
    by_cases e : a = xs[i]
    · rw [if_pos e]; exact ⟨i, rfl, ⟨fun _ => by rw [e]; exact List.mem_cons_self, fun _ => Int.natCast_nonneg _⟩⟩
    · rw [if_neg e, wrap_up (by omega)]
      obtain ⟨r, hr, hx⟩ := index_from xs a hn d m (i + 1) (by omega) (by omega)
      exact ⟨r, hr, by rw [hx, List.mem_cons]; exact ⟨Or.inr, fun h => h.resolve_left e⟩⟩
theorem contains_spec (xs : List Int) (a : Int) (k : Nat) (hn : xs.length < 1000000) (hk : xs.length < k) : slices_Contains_int_int.f k xs a = some (decide (a ∈ xs)) := by
  obtain ⟨r, hr, hx⟩ := index_from xs a hn xs.length k 0 (by omega) hk
  unfold slices_Contains_int_int.f slices_Index_int_int.f
  rw [show (0 : Int) = ((0 : Nat) : Int) from rfl, hr, Option.bind_some]
  congr 1
  rw [List.drop_zero] at hx
  exact decide_eq_decide.2 hx

/-! ### key.May -/
def MayP (cols : List Int) (n : Int) : Prop := 0 < cols.length ∧ (cols.length : Int) ≤ n ∧ (∀ c ∈ cols, 0 ≤ c ∧ c < n) ∧ cols.Nodup
instance (cols : List Int) (n : Int) : Decidable (MayP cols n) := by unfold MayP; infer_instance
/-- From column i on. -/
def MayFrom (cols : List Int) (n : Int) (i : Nat) : Prop := ∀ j, (h : j < cols.length) → i ≤ j → 0 ≤ cols[j] ∧ cols[j] < n ∧ cols[j] ∉ cols.take j
instance (cols : List Int) (n : Int) (i : Nat) : Decidable (MayFrom cols n i) := by unfold MayFrom; infer_instance
theorem mayFrom_step {cols : List Int} {n : Int} {i : Nat} (hi : i < cols.length) : MayFrom cols n i ↔ (0 ≤ cols[i] ∧ cols[i] < n ∧ cols[i] ∉ cols.take i) ∧ MayFrom cols n (i + 1) := by
  constructor
  · intro h; exact ⟨h i hi (Nat.le_refl _), fun j hj hij => h j hj (by omega)⟩
  · rintro ⟨h1, h2⟩ j hj hij
    by_cases e : j = i
    · subst e; exact h1
    · exact h2 j hj (by omega)
theorem may_from (cols : List Int) (n : Int) (hl : cols.length ≤ 1000) : ∀ (d k i : Nat), i + d = cols.length → d + 1001 < k →
    key_May.l0 k cols n cols (cols.length : Int) (i : Int) = some (decide (MayFrom cols n i))
  | 0, k, i, h, hk => by
    obtain ⟨m, rfl, _⟩ := fuel hk
    simp only [key_May.l0]; rw [if_neg (by omega)]
    congr 1
    rw [eq_comm, decide_eq_true_eq]
    intro j hj hij; omega
  | d + 1, k, i, h, hk => by
    obtain ⟨m, rfl, hm⟩ := fuel hk
    have hi : i < cols.length := by omega
    simp only [key_May.l0]
    rw [if_pos (by omega), if_pos (by omega), if_pos (by omega), rd_nat hi]
    have hs := mayFrom_step (n := n) hi
    by_cases h0 : cols[i] < 0
    · rw [if_pos h0]; congr 1; rw [eq_comm, decide_eq_false_iff_not, hs]; omega
    · rw [if_neg h0]
      by_cases h1 : cols[i] ≥ n
      · rw [if_pos h1]; congr 1; rw [eq_comm, decide_eq_false_iff_not, hs]; omega
      · rw [if_neg h1, if_pos (by omega), Int.toNat_natCast, contains_spec _ _ m (by rw [List.length_take]; omega) (by rw [List.length_take]; omega), Option.bind_some]
        by_cases hc : cols[i] ∈ cols.take i
        · rw [if_pos (by simpa using hc)]; congr 1; rw [eq_comm, decide_eq_false_iff_not, hs]; exact fun h => h.1.2.2 hc
        · rw [if_neg (by simpa using hc), wrap_up (by omega), may_from cols n hl d m (i + 1) (by omega) (by omega)]
          congr 1
          exact decide_eq_decide.2 ⟨fun h => hs.2 ⟨⟨by omega, by omega, hc⟩, h⟩, fun h => (hs.1 h).2⟩
theorem mayFrom_iff (cols : List Int) (n : Int) : MayFrom cols n 0 ↔ (∀ c ∈ cols, 0 ≤ c ∧ c < n) ∧ cols.Nodup := by
  constructor
  · intro h
    refine ⟨fun c hc => ?_, ?_⟩
    · obtain ⟨j, hj, rfl⟩ := List.getElem_of_mem hc
      have := h j hj (Nat.zero_le _); exact ⟨this.1, this.2.1⟩
    · rw [List.nodup_iff_pairwise_ne, List.pairwise_iff_getElem]
      intro i j hi hj hij he
      refine (h j hj (Nat.zero_le _)).2.2 ?_
      rw [← he, List.mem_take_iff_getElem]
      exact ⟨i, by omega, rfl⟩
  · rintro ⟨h1, h2⟩ j hj _
    refine ⟨(h1 _ (List.getElem_mem hj)).1, (h1 _ (List.getElem_mem hj)).2, fun hm => ?_⟩
    rw [List.mem_take_iff_getElem] at hm
    obtain ⟨i, hi, he⟩ := hm
    rw [List.nodup_iff_pairwise_ne, List.pairwise_iff_getElem] at h2
    exact h2 i j (by omega) hj (by omega) he
theorem keyMay_spec (cols : List Int) (n : Int) (k : Nat) (hl : cols.length ≤ 1000) (hk : 3000 < k) : key_May.f k cols n = some (decide (MayP cols n)) := by
  obtain ⟨m, rfl, hm⟩ := fuel hk
  unfold key_May.f
  by_cases h0 : (cols.length : Int) = 0
  · rw [if_pos h0]
    simp only [key_May.j0, if_true]
    congr 1; rw [eq_comm, decide_eq_false_iff_not]; unfold MayP; omega
  · rw [if_neg h0]
    by_cases h1 : (cols.length : Int) > n
    · simp only [key_May.j0]
      rw [if_pos (by simpa using h1)]
      congr 1; rw [eq_comm, decide_eq_false_iff_not]; unfold MayP; omega
    · simp only [key_May.j0]
      rw [if_neg (by simpa using h1)]
      rw [show (0 : Int) = ((0 : Nat) : Int) from rfl, may_from cols n hl cols.length m 0 (by omega) (by omega)]
      congr 1
      refine decide_eq_decide.2 ?_
      rw [mayFrom_iff]
      unfold MayP
      constructor
      · rintro ⟨a, b⟩; exact ⟨by omega, by omega, a, b⟩
      · rintro ⟨_, _, a, b⟩; exact ⟨a, b⟩

/-! ### key.Of -/
def getV (row : List S23) (c : Int) : S23 := rd_T23 row c
def ofL (row : List S23) (cols : List Int) : List S23 := cols.map (getV row)
theorem of_from (row : List S23) (cols : List Int) (hl : cols.length ≤ 1000) (hc : ∀ c ∈ cols, 0 ≤ c ∧ c < (row.length : Int)) : ∀ (d k i : Nat) (out : List S23), i + d = cols.length → out.length = cols.length → d < k →
    key_Of.l0 k row cols out (cols.length : Int) (i : Int) = some (out.take i ++ (cols.drop i).map (getV row), 0)
  | 0, k, i, out, h, ho, hk => by
    obtain ⟨m, rfl, _⟩ := fuel hk
    simp only [key_Of.l0]
    rw [if_neg (by omega), List.take_of_length_le (by omega), List.drop_of_length_le (by omega)]
    simp
  | d + 1, k, i, out, h, ho, hk => by
    obtain ⟨m, rfl, hm⟩ := fuel hk
    have hi : i < cols.length := by omega
    have hci := hc _ (List.getElem_mem hi)
    simp only [key_Of.l0]
    rw [if_pos (by omega), if_pos (by omega), if_pos (by omega), rd_nat hi, if_pos hci.1, if_pos hci.2, if_pos (by omega), wrap_up (by omega), Int.toNat_natCast]
    rw [of_from row cols hl hc d m (i + 1) _ (by omega) (by rw [List.length_set]; exact ho) (by omega)]
    congr 2
    rw [List.drop_eq_getElem_cons hi, List.map_cons, List.take_succ_eq_append_getElem (by rw [List.length_set]; omega), List.getElem_set_self, List.take_set_of_le (Nat.le_refl _)]
    simp [getV]
theorem of_spec (row : List S23) (cols : List Int) (k : Nat) (hl : cols.length ≤ 1000) (hk : 3000 < k) :
    key_Of.f k row cols = some (if MayP cols (row.length : Int) then (ofL row cols, 0) else ([], 4)) := by
  unfold key_Of.f
  rw [keyMay_spec cols _ k hl hk, Option.bind_some]
  by_cases hm : MayP cols (row.length : Int)
  · rw [if_pos (by simpa using hm), if_pos (by omega), if_pos (by omega), if_pos hm, show (0 : Int) = ((0 : Nat) : Int) from rfl]
    rw [of_from row cols hl hm.2.2.1 cols.length k 0 _ (by omega) (by simp) (by omega)]
    simp [ofL]
  · rw [if_neg (by simpa using hm), if_neg hm]

/-! ### key.Set -/
def setL (row : List S23) (ps : List (Int × S23)) : List S23 := ps.foldl (fun r p => r.set p.1.toNat p.2) row
theorem setL_length (row : List S23) (ps : List (Int × S23)) : (setL row ps).length = row.length := by
  unfold setL
  induction ps generalizing row with
  | nil => rfl
  | cons p r ih => rw [List.foldl_cons, ih, List.length_set]
theorem set_from (cols : List Int) (vals : List S23) (n : Nat) (hl : cols.length ≤ 1000) (he : vals.length = cols.length) (hc : ∀ c ∈ cols, 0 ≤ c ∧ c < (n : Int)) : ∀ (d k i : Nat) (out : List S23), i + d = cols.length → out.length = n → d < k →
    key_Set.l0 k vals out cols (cols.length : Int) (i : Int) = some (setL out ((cols.zip vals).drop i), 0)
  | 0, k, i, out, h, ho, hk => by
    obtain ⟨m, rfl, _⟩ := fuel hk
    simp only [key_Set.l0]
    rw [if_neg (by omega), List.drop_of_length_le (by rw [List.length_zip]; omega)]
    rfl
  | d + 1, k, i, out, h, ho, hk => by
    obtain ⟨m, rfl, hm⟩ := fuel hk
    have hi : i < cols.length := by omega
    have hci := hc _ (List.getElem_mem hi)
    simp only [key_Set.l0]
    rw [if_pos (by omega), if_pos (by omega), if_pos (by omega), if_pos (by omega), rd_nat hi, if_pos hci.1, if_pos (by omega), wrap_up (by omega), rdT_nat (by omega)]
    rw [set_from cols vals n hl he hc d m (i + 1) _ (by omega) (by rw [List.length_set]; exact ho) (by omega)]
    rw [List.drop_eq_getElem_cons (i := i) (by rw [List.length_zip]; omega), List.getElem_zip]
    rfl
theorem set_spec (row : List S23) (cols : List Int) (vals : List S23) (k : Nat) (hr : row.length < 3518437208883) (hl : cols.length ≤ 1000) (hk : 3001 < k) :
    key_Set.f k row cols vals = some (if MayP cols (row.length : Int) ∧ vals.length = cols.length then (setL row (cols.zip vals), 0) else ([], 4)) := by
  obtain ⟨m, rfl, hm⟩ := fuel hk
  unfold key_Set.f
  rw [keyMay_spec cols _ _ hl (by omega), Option.bind_some]
  by_cases hp : MayP cols (row.length : Int)
  · rw [if_pos (by simpa using hp)]
    simp only [key_Set.j0]
    by_cases he : vals.length = cols.length
    · rw [if_neg (by simp; omega), if_pos ⟨hp, he⟩]
      unfold api_Value_81.f
      rw [if_pos hr, Option.bind_some, show (0 : Int) = ((0 : Nat) : Int) from rfl, set_from cols vals row.length hl he hp.2.2.1 cols.length m 0 row (by omega) rfl (by omega), List.drop_zero]
      rfl
    · rw [if_pos (by simp; omega), if_neg (fun h => he h.2)]
  · rw [if_neg (by simpa using hp)]
    simp only [key_Set.j0, if_true]
    rw [if_neg (fun h => hp h.1)]

theorem same4_from (a b : List S23) (hl : a.length = b.length) (hn : a.length < 1000000) : ∀ (d k i : Nat), i + d = a.length → d < k → covenantref04_Same.l0 k a b (i : Int) = some (decide (a.drop i = b.drop i))
  | 0, k, i, h, hk => by
    obtain ⟨m, rfl, _⟩ := fuel hk
    simp only [covenantref04_Same.l0]
    rw [if_neg (by omega), List.drop_of_length_le (by omega), List.drop_of_length_le (by omega)]
    rfl
  | d + 1, k, i, h, hk => by
    obtain ⟨m, rfl, hm⟩ := fuel hk
    have hi : i < a.length := by omega
    simp only [covenantref04_Same.l0]
    rw [if_pos (by omega), if_pos (by omega), if_pos (by omega), rdT_nat hi, rdT_nat (by omega), wrap_up (by omega), List.drop_eq_getElem_cons hi, List.drop_eq_getElem_cons (by omega : i < b.length)]
    by_cases e : a[i] = b[i]'(by omega)
    · rw [if_neg (fun h => (ne_test _ _).1 h e), same4_from a b hl hn d m (i + 1) (by omega) (by omega), e]
      congr 1
      exact decide_eq_decide.2 ⟨fun h => by rw [h], fun h => (List.cons.inj h).2⟩
    · rw [if_pos ((ne_test _ _).2 e)]
      congr 1
      rw [eq_comm, decide_eq_false_iff_not]
      exact fun h => e (List.cons.inj h).1
theorem same4_spec (a b : List S23) (k : Nat) (hn : a.length < 1000000) (hk : a.length < k) : covenantref04_Same.f k a b = some (decide (a = b)) := by
  unfold covenantref04_Same.f
  by_cases h : a.length = b.length
  · rw [if_pos (by omega), show (0 : Int) = ((0 : Nat) : Int) from rfl, same4_from a b h hn a.length k 0 (by omega) hk, List.drop_zero, List.drop_zero]
  · rw [if_neg (by omega)]
    congr 1
    rw [eq_comm, decide_eq_false_iff_not]
    exact fun e => h (by rw [e])
/-! ### key.Same, key.Refers -/
theorem keySame_spec (xs ys : List S23) (k : Nat) (hn : xs.length < 1000000) (hk : xs.length < k) : key_Same.f k xs ys = some (wholeB xs && (wholeB ys && decide (xs = ys))) := by
  unfold key_Same.f key_Whole.f
  rw [Option.bind_some]
  cases hx : wholeB xs with
  | false => simp
  | true =>
    rw [if_pos rfl, Option.bind_some]
    cases hy : wholeB ys with
    | false => simp
    | true => rw [if_pos rfl, same_spec xs ys k hn hk]; simp
theorem refers_spec (row : List S23) (cols : List Int) (key : List S23) (k : Nat) (hl : cols.length ≤ 1000) (hk : 3000 < k) :
    key_Refers.f k row cols key = some (decide (MayP cols (row.length : Int)) && (wholeB (ofL row cols) && (wholeB key && decide (ofL row cols = key)))) := by
  unfold key_Refers.f
  rw [of_spec row cols k hl hk, Option.bind_some]
  by_cases hm : MayP cols (row.length : Int)
  · have hn : (ofL row cols).length = cols.length := by simp [ofL]
    rw [if_pos hm, if_pos rfl, keySame_spec (ofL row cols) key k (by omega) (by omega)]
    simp [hm]
  · rw [if_neg hm, if_neg (by decide)]
    simp [hm]

/-! ### long -/
theorem long_from (xs : List S23) (hn : xs.length < 1000000) : ∀ (d k i : Nat), i + d = xs.length → d < k → ∃ b, covenantlaw06_long.l0 k xs (i : Int) = some b
  | 0, k, i, h, hk => by
    obtain ⟨m, rfl, _⟩ := fuel hk
    simp only [covenantlaw06_long.l0]
    exact ⟨false, by rw [if_neg (by omega)]⟩
  | d + 1, k, i, h, hk => by
    obtain ⟨m, rfl, hm⟩ := fuel hk
    have hx : i < xs.length := by omega
    simp only [covenantlaw06_long.l0]
    rw [if_pos (by omega), if_pos (by omega)]
    split
    · exact ⟨true, rfl⟩
    · rw [wrap_up (by omega)]
      exact long_from xs hn d m (i + 1) (by omega) (by omega)
/-- Whether it is long; where not, it has at most 60 values. -/
theorem long_spec (xs : List S23) (k : Nat) (hk : 100 < k) : ∃ b, covenantlaw06_long.f k xs = some b ∧ (b = false → xs.length ≤ 60) := by
  unfold covenantlaw06_long.f
  by_cases h : (xs.length : Int) > 60
  · rw [if_pos h]; exact ⟨true, rfl, by simp⟩
  · rw [if_neg h]
    obtain ⟨b, hb⟩ := long_from xs (by omega) xs.length k 0 (by omega) (by omega)
    exact ⟨b, by simpa using hb, fun _ => by omega⟩
end Go.Proofs.YtddmllocjocipaaDoor.D
