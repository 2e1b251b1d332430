/- The document's answers for keys are the program's; the law KeyTells, over lists alone. Conditions: as each theorem states them. -/
import Derived.Test.YtddmllocjocipaaDoorKey
import Derived.Test.YtddmllocjocipaaDoorPureRowTells
import Derived.Test.YtddmllocjocipaaDoorDx29
namespace Go.Proofs.YtddmllocjocipaaDoor.D
open Go.RowKit Go.Proofs.YtddmllocjocipaaDoorW.PrintWords Go.Proofs.YtddmllocjocipaaDoorW.PrintLast Go.Proofs.YtddmllocjocipaaDoorW.PrintMore
set_option linter.unusedSimpArgs false
set_option linter.unusedVariables false
/-! ### which columns may be -/
theorem ref_in_from (cols : List Int) (n : Int) (hl : cols.length ≤ 1000) (i : Nat) (hi : i < cols.length) (r : Bool) : ∀ (d k j : Nat), j + d = i → d + 1 < k → (∀ k', k ≤ k' + (d + 1) → covenantref06_May.l0 k' cols n ((i + 1 : Nat) : Int) = some r) →
    covenantref06_May.l1 k cols n (i : Int) (j : Int) = some (if cols[i] ∈ (cols.take i).drop j then false else r)
  | 0, k, j, h, hk, hr => by
    obtain ⟨m, rfl, _⟩ := fuel (k := k) (d := 0) (by omega)
    simp only [covenantref06_May.l1]
    rw [if_neg (by omega), wrap_up (by omega), hr m (by omega), List.drop_of_length_le (by rw [List.length_take]; omega), if_neg (by simp)]
  | d + 1, k, j, h, hk, hr => by
    obtain ⟨m, rfl, hm⟩ := fuel (k := k) (d := d + 1) (by omega)
    have hj : j < i := by omega
    have hj2 : j < cols.length := by omega
    have hd : (cols.take i).drop j = cols[j] :: (cols.take i).drop (j + 1) := by
      rw [List.drop_eq_getElem_cons (by rw [List.length_take]; omega), List.getElem_take]
    simp only [covenantref06_May.l1]
    rw [if_pos (by omega), if_pos (by omega), if_pos (by omega), if_pos (by omega), if_pos (by omega), rd_nat hj2, rd_nat hi, hd]
    by_cases e : cols[j] = cols[i]
    · rw [if_pos e, if_pos (by rw [e]; exact List.mem_cons_self)]
    · rw [if_neg e, wrap_up (by omega), ref_in_from cols n hl i hi r d m (j + 1) (by omega) (by omega) (fun k' hk' => hr k' (by omega))]
      congr 1
      by_cases q : cols[i] ∈ (cols.take i).drop (j + 1)
      · rw [if_pos q, if_pos (List.mem_cons_of_mem _ q)]
      · rw [if_neg q, if_neg (fun h => (List.mem_cons.1 h).elim (fun e2 => e e2.symm) q)]
theorem ref_may_from (cols : List Int) (n : Int) (hl : cols.length ≤ 1000) (C : Nat) (hC : cols.length + 5 ≤ C) : ∀ (d k i : Nat), i + d = cols.length → C * (d + 1) < k →
    covenantref06_May.l0 k cols n (i : Int) = some (decide (MayFrom cols n i))
  | 0, k, i, h, hk => by
    obtain ⟨m, rfl, _⟩ := fuel (k := k) (d := 0) (by omega)
    simp only [covenantref06_May.l0]
    rw [if_neg (by omega)]
    congr 1
    rw [eq_comm, decide_eq_true_eq]
    intro j hj hij; omega
  | d + 1, k, i, h, hk => by
    have hC2 : C * (d + 1 + 1) = C * (d + 1) + C := Nat.mul_succ _ _
    obtain ⟨m, rfl, hm⟩ : ∃ m, k = m + 1 + 1 ∧ C * (d + 1) + C ≤ m + 1 := ⟨k - 2, by omega, by omega⟩
    have hi : i < cols.length := by omega
    have hs := mayFrom_step (n := n) hi
    have next : ∀ k', m ≤ k' + (i + 1) → covenantref06_May.l0 k' cols n ((i + 1 : Nat) : Int) = some (decide (MayFrom cols n (i + 1))) := fun k' hk' => ref_may_from cols n hl C hC d k' (i + 1) (by omega) (by omega)
    rw [covenantref06_May.l0]
    rw [if_pos (by omega), if_pos (by omega), rd_nat hi]
    by_cases h0 : cols[i] < 0
    · rw [if_pos h0, covenantref06_May.j1, if_pos rfl]
      congr 1; rw [eq_comm, decide_eq_false_iff_not, hs]; omega
    · rw [if_neg h0, covenantref06_May.j1]
      by_cases h1 : cols[i] ≥ n
      · rw [if_pos (decide_eq_true h1)]
        congr 1; rw [eq_comm, decide_eq_false_iff_not, hs]; omega
      · rw [if_neg (by simpa using h1), show (0 : Int) = ((0 : Nat) : Int) from rfl, ref_in_from cols n hl i hi (decide (MayFrom cols n (i + 1))) i m 0 (by omega) (by omega) next, List.drop_zero]
        congr 1
        by_cases q : cols[i] ∈ cols.take i
        · rw [if_pos q, eq_comm, decide_eq_false_iff_not, hs]; exact fun h => h.1.2.2 q
        · rw [if_neg q]
          exact decide_eq_decide.2 ⟨fun h => hs.2 ⟨⟨by omega, by omega, q⟩, h⟩, fun h => (hs.1 h).2⟩
theorem ref_keyMay (cols : List Int) (n : Int) (k : Nat) (hl : cols.length ≤ 1000) (hk : 1010 * (cols.length + 1) < k) (hn : cols ≠ [] → (cols.length : Int) ≤ n ∨ ¬ MayFrom cols n 0) : covenantref06_May.f k cols n = some (decide (MayP cols n)) := by
  unfold covenantref06_May.f
  by_cases h0 : (cols.length : Int) = 0
  · rw [if_pos h0]
    congr 1; rw [eq_comm, decide_eq_false_iff_not]; unfold MayP; omega
  · rw [if_neg h0, show (0 : Int) = ((0 : Nat) : Int) from rfl, ref_may_from cols n hl 1010 (by omega) cols.length k 0 (by omega) hk]
    congr 1
    refine decide_eq_decide.2 ?_
    unfold MayP
    rw [← mayFrom_iff]
    have hn' := hn (fun e => h0 (by rw [e]; rfl))
    exact ⟨fun h => ⟨by omega, hn'.elim id (fun e => absurd h e), h⟩, fun h => h.2.2⟩
theorem nodup_lt : ∀ (n : Nat) (l : List Nat), l.Nodup → (∀ x ∈ l, x < n) → l.length ≤ n
  | 0, l, _, h => by
    cases l with
    | nil => simp
    | cons x l => have := h x (by simp); omega
  | n + 1, l, hd, h => by
    have h1 := nodup_lt n (l.erase n) (hd.erase n) (by
      intro x hx
      have h2 := h x (List.mem_of_mem_erase hx)
      have h3 : x ≠ n := by
        intro e
        subst e
        exact ((List.Nodup.mem_erase_iff hd).1 hx).1 rfl
      omega)
    rw [List.length_erase] at h1
    split at h1 <;> omega
/-- More columns than there are values: two are the same. -/
theorem many_cols (cols : List Int) (n : Int) (hne : cols ≠ []) (h : n < (cols.length : Int)) : ¬ MayFrom cols n 0 := by
  rw [mayFrom_iff]
  rintro ⟨h1, h2⟩
  by_cases hn : n < 0
  · cases cols with
    | nil => exact absurd rfl hne
    | cons c l => have := h1 c (by simp); omega
  · have hnd : (cols.map Int.toNat).Nodup := by
      rw [List.nodup_iff_pairwise_ne, List.pairwise_map]
      rw [List.nodup_iff_pairwise_ne] at h2
      refine List.Pairwise.imp_of_mem ?_ h2
      intro a b ha hb hab e
      have := h1 a ha
      have := h1 b hb
      omega
    have := nodup_lt n.toNat (cols.map Int.toNat) hnd (by
      intro x hx
      obtain ⟨c, hc, rfl⟩ := List.mem_map.1 hx
      have := h1 c hc
      omega)
    rw [List.length_map] at this
    omega
theorem ref_may_spec6 (cols : List Int) (n : Int) (k : Nat) (hl : cols.length ≤ 1000) (hk : 1010 * (cols.length + 1) < k) : covenantref06_May.f k cols n = some (decide (MayP cols n)) := by
  refine ref_keyMay cols n k hl hk (fun hne => ?_)
  by_cases h : (cols.length : Int) ≤ n
  · exact .inl h
  · exact .inr (many_cols cols n hne (by omega))
/-! ### a row's key, what is set -/
theorem ref_of_from (row : List S23) (cols : List Int) (hl : cols.length ≤ 1000) (hc : ∀ c ∈ cols, 0 ≤ c ∧ c < (row.length : Int)) : ∀ (d k i : Nat) (out : List S23), i + d = cols.length → d < k → out = (cols.take i).map (getV row) →
    covenantref06_Of.l0 k row cols out (i : Int) = some (ofL row cols, 0)
  | 0, k, i, out, h, hk, ho => by
    obtain ⟨m, rfl, _⟩ := fuel hk
    simp only [covenantref06_Of.l0]
    rw [if_neg (by omega), ho, List.take_of_length_le (by omega)]
    rfl
  | d + 1, k, i, out, h, hk, ho => by
    obtain ⟨m, rfl, hm⟩ := fuel hk
    have hi : i < cols.length := by omega
    have hci := hc _ (List.getElem_mem hi)
    have hol : out.length = i := by rw [ho, List.length_map, List.length_take]; omega
    simp only [covenantref06_Of.l0]
    rw [if_pos (by omega), if_pos (by omega), rd_nat hi, if_pos hci.1, if_pos hci.2, if_pos (by omega), wrap_up (by omega)]
    refine ref_of_from row cols hl hc d m (i + 1) _ (by omega) (by omega) ?_
    rw [ho, List.take_succ_eq_append_getElem hi, List.map_append]
    rfl
theorem ref_of_spec (row : List S23) (cols : List Int) (k : Nat) (hl : cols.length ≤ 1000) (hk : 1010 * (cols.length + 1) < k) :
    covenantref06_Of.f k row cols = some (if MayP cols (row.length : Int) then (ofL row cols, 0) else ([], 4)) := by
  unfold covenantref06_Of.f
  rw [ref_may_spec6 cols _ k hl hk, Option.bind_some]
  by_cases hm : MayP cols (row.length : Int)
  · rw [if_pos (by simpa using hm), if_pos hm, show (0 : Int) = ((0 : Nat) : Int) from rfl, ref_of_from row cols hl hm.2.2.1 cols.length k 0 [] (by omega) (by omega) rfl]
    rfl
  · rw [if_neg (by simpa using hm), if_neg hm]
theorem ref_set_from (cols : List Int) (vals : List S23) (n : Nat) (hl : cols.length ≤ 1000) (he : vals.length = cols.length) (hc : ∀ c ∈ cols, 0 ≤ c ∧ c < (n : Int)) : ∀ (d k i : Nat) (out : List S23), i + d = cols.length → out.length = n → d < k →
    covenantref06_Set.l0 k cols vals out (i : Int) = some (setL out ((cols.zip vals).drop i), 0)
  | 0, k, i, out, h, ho, hk => by
    obtain ⟨m, rfl, _⟩ := fuel hk
    simp only [covenantref06_Set.l0]
    rw [if_neg (by omega), List.drop_of_length_le (by rw [List.length_zip]; omega)]
    rfl
  | d + 1, k, i, out, h, ho, hk => by
    obtain ⟨m, rfl, hm⟩ := fuel hk
    have hi : i < cols.length := by omega
    have hci := hc _ (List.getElem_mem hi)
    simp only [covenantref06_Set.l0]
    rw [if_pos (by omega), if_pos (by omega), if_pos (by omega), rd_nat hi, if_pos hci.1, if_pos (by omega), wrap_up (by omega), rdT_nat (by omega)]
    rw [ref_set_from cols vals n hl he hc d m (i + 1) _ (by omega) (by rw [List.length_set]; exact ho) (by omega)]
    rw [List.drop_eq_getElem_cons (i := i) (by rw [List.length_zip]; omega), List.getElem_zip]
    rfl
set_option maxRecDepth 10000 in
theorem ref_set_spec (row : List S23) (cols : List Int) (vals : List S23) (k : Nat) (hr : row.length < 3518437208883) (hl : cols.length ≤ 1000) (hk : 1010 * (cols.length + 1) + 1 < k) :
    covenantref06_Set.f k row cols vals = some (if MayP cols (row.length : Int) ∧ vals.length = cols.length then (setL row (cols.zip vals), 0) else ([], 4)) := by
  obtain ⟨m, rfl, hm⟩ : ∃ m, k = m + 1 ∧ 1010 * (cols.length + 1) < m := ⟨k - 1, by omega, by omega⟩
  unfold covenantref06_Set.f
  rw [ref_may_spec6 cols _ _ hl (by omega), Option.bind_some]
  by_cases hp : MayP cols (row.length : Int)
  · rw [if_pos (by simpa using hp)]
    simp only [covenantref06_Set.j0]
    by_cases he : vals.length = cols.length
    · rw [if_neg (by simp; omega), if_pos ⟨hp, he⟩, Option.bind_some, if_pos (by simpa using hr), List.nil_append, show (0 : Int) = ((0 : Nat) : Int) from rfl, ref_set_from cols vals row.length hl he hp.2.2.1 cols.length m 0 row (by omega) rfl (by omega), List.drop_zero]
      rfl
    · rw [if_pos (by simp; omega), if_neg (fun h => he h.2)]
  · rw [if_neg (by simpa using hp)]
    simp only [covenantref06_Set.j0, if_true]
    rw [if_neg (fun h => hp h.1)]
/-! ### whole keys -/
def NonNull (l : List S23) : Prop := ∀ x ∈ l, x.f0 ≠ 0
instance (l : List S23) : Decidable (NonNull l) := by unfold NonNull; infer_instance
theorem nonNull_cons (x : S23) (l : List S23) : NonNull (x :: l) ↔ x.f0 ≠ 0 ∧ NonNull l :=
  ⟨fun h => ⟨h x List.mem_cons_self, fun y hy => h y (List.mem_cons_of_mem _ hy)⟩, fun h y hy => (List.mem_cons.1 hy).elim (fun e => e ▸ h.1) (h.2 y)⟩
theorem ref_whole_from (l : List S23) (hn : l.length < 1000000) : ∀ (d k i : Nat), i + d = l.length → d < k → covenantref06_Whole.l0 k l (i : Int) = some (decide (NonNull (l.drop i) ∧ (l.length : Int) > 0))
  | 0, k, i, h, hk => by
    obtain ⟨m, rfl, _⟩ := fuel hk
    simp only [covenantref06_Whole.l0]
    rw [if_neg (by omega), List.drop_of_length_le (by omega)]
    congr 1
    exact decide_eq_decide.2 ⟨fun h => ⟨fun x hx => (by cases hx), h⟩, fun h => h.2⟩
  | d + 1, k, i, h, hk => by
    obtain ⟨m, rfl, hm⟩ := fuel hk
    have hi : i < l.length := by omega
    simp only [covenantref06_Whole.l0]
    rw [if_pos (by omega), if_pos (by omega), rdT_nat hi, List.drop_eq_getElem_cons hi]
    by_cases e : l[i].f0 = 0
    · rw [if_pos e]
      congr 1
      rw [eq_comm, decide_eq_false_iff_not, nonNull_cons]
      exact fun h => h.1.1 e
    · rw [if_neg e, wrap_up (by omega), ref_whole_from l hn d m (i + 1) (by omega) (by omega)]
      congr 1
      exact decide_eq_decide.2 (by rw [nonNull_cons]; exact ⟨fun h => ⟨⟨e, h.1⟩, h.2⟩, fun h => ⟨h.1.2, h.2⟩⟩)
theorem whole_iff (l : List S23) : wholeB l = decide (NonNull l ∧ (l.length : Int) > 0) := by
  unfold wholeB NonNull
  rw [Bool.eq_iff_iff]
  simp
  cases l <;> simp
theorem ref_whole_spec (l : List S23) (k : Nat) (hn : l.length < 1000000) (hk : l.length < k) : covenantref06_Whole.f k l = some (wholeB l) := by
  unfold covenantref06_Whole.f
  rw [show (0 : Int) = ((0 : Nat) : Int) from rfl, ref_whole_from l hn l.length k 0 (by omega) hk, List.drop_zero, whole_iff]
theorem ref_keySame (a b : List S23) (k : Nat) (hn : a.length < 1000000) (hm : b.length < 1000000) (hk : a.length < k) (hk2 : b.length < k) : covenantref06_Same.f k a b = key_Same.f k a b := by
  rw [keySame_spec a b k hn hk]
  unfold covenantref06_Same.f
  rw [ref_whole_spec a k hn hk, Option.bind_some]
  cases hx : wholeB a with
  | false => simp
  | true =>
    rw [if_pos rfl, ref_whole_spec b k hm hk2, Option.bind_some]
    cases hy : wholeB b with
    | false => simp
    | true => rw [if_pos rfl, ref_same_spec a b k hn hk]; simp
set_option maxRecDepth 10000 in
theorem ref_refers (row : List S23) (cols : List Int) (key : List S23) (k : Nat) (hl : cols.length ≤ 1000) (hkey : key.length < 1000000) (hk : 1010 * (cols.length + 1) + 3000 < k) (hk2 : key.length < k) :
    covenantref06_Refers.f k row cols key = key_Refers.f k row cols key := by
  have hn : (ofL row cols).length = cols.length := by simp [ofL]
  unfold covenantref06_Refers.f key_Refers.f
  rw [of_spec row cols k hl (by omega), ref_of_spec row cols k hl (by omega)]
  by_cases hm : MayP cols (row.length : Int)
  · rw [if_pos hm, Option.bind_some, Option.bind_some]
    simp only
    rw [if_pos trivial, if_pos trivial, ref_keySame (ofL row cols) key k (by omega) hkey (by omega) hk2]
  · rw [if_neg hm]; rfl
/-! ### values written over -/
theorem spoil_some : ∀ (d k i : Nat) (l : List S23), i + d = l.length → l.length < 1000000 → d < k → ∃ r, covenantlaw06_spoil.l0 k l (i : Int) = some r
  | 0, k, i, l, h, hn, hk => by
    obtain ⟨m, rfl, _⟩ := fuel hk
    simp only [covenantlaw06_spoil.l0]
    exact ⟨l, by rw [if_neg (by omega)]⟩
  | d + 1, k, i, l, h, hn, hk => by
    obtain ⟨m, rfl, hm⟩ := fuel hk
    simp only [covenantlaw06_spoil.l0]
    rw [if_pos (by omega), if_pos (by omega), wrap_up (by omega)]
    exact spoil_some d m (i + 1) _ (by rw [List.length_set]; omega) (by rw [List.length_set]; exact hn) (by omega)
theorem spoil_any (l : List S23) (k : Nat) (hn : l.length < 1000000) (hk : l.length < k) : ∃ r, covenantlaw06_spoil.f k l = some r := by
  unfold covenantlaw06_spoil.f
  exact spoil_some l.length k 0 l (by omega) hn hk
theorem cols_from (a v : List S23) (cols : List Int) (ha : a.length < 1000000) (hv : v.length < 1000000) (hl : cols.length ≤ 1000) : ∀ (d k i : Nat), i + d = cols.length → d + a.length + v.length + 1 < k → covenantlaw06_KeyTells.l1 k a cols v a cols v (i : Int) = some true
  | 0, k, i, h, hk => by
    obtain ⟨m, rfl, hm⟩ := fuel (k := k) (d := a.length + v.length + 1) (by omega)
    simp only [covenantlaw06_KeyTells.l1]
    rw [if_neg (by omega), same4_spec a a m ha (by omega), Option.bind_some, if_pos (by simp), same4_spec v v m hv (by omega), Option.bind_some, if_pos (by simp)]
    rfl
  | d + 1, k, i, h, hk => by
    obtain ⟨m, rfl, hm⟩ := fuel (k := k) (d := d + a.length + v.length + 2) (by omega)
    simp only [covenantlaw06_KeyTells.l1]
    rw [if_pos (by omega), if_pos (by omega), if_pos (by omega), if_pos trivial, wrap_up (by omega)]
    exact cols_from a v cols ha hv hl d m (i + 1) (by omega) (by omega)
theorem keys_last (a v : List S23) (cols : List Int) (n : Int) (hv : ∀ x ∈ v, FitV x) (la : a.length ≤ 60) (lv : v.length ≤ 60) (lc : cols.length ≤ 60) (k : Nat) (hk : 99000 ≤ k) : covenantlaw06_KeyTells.l0 k a cols v n a cols v ((2 : Nat) : Int) = some true := by
  obtain ⟨m, rfl, hm⟩ := fuel (k := k) (d := 98999) (by omega)
  obtain ⟨m, rfl, hm3⟩ := fuel (k := m) (d := 98998) (by omega)
  rw [covenantlaw06_KeyTells.l0]
  rw [if_neg (by decide), keyMay_spec cols n _ (by omega) (by omega), ref_may_spec6 cols n _ (by omega) (by omega), Option.bind_some, Option.bind_some, if_neg (by simp)]
  unfold key_Whole.f
  rw [ref_whole_spec v _ (by omega) (by omega), Option.bind_some, Option.bind_some, if_neg (by simp), ref_refers a cols v _ (by omega) (by omega) (by omega) (by omega), refers_spec a cols v _ (by omega) (by omega), Option.bind_some, Option.bind_some, if_neg (by simp), ref_keySame a v _ (by omega) (by omega) (by omega) (by omega), keySame_spec a v _ (by omega) (by omega), Option.bind_some, Option.bind_some, if_neg (by simp)]
  unfold key_Text.f covenantref06_Text.f
  rw [row_text v hv (by omega) _ (by omega), ref_text v hv (by omega) _ (by omega)]
  simp only [Option.bind_some, bne_self_eq_false]
  rw [covenantlaw06_KeyTells.j3, if_neg (by decide), show (0 : Int) = ((0 : Nat) : Int) from rfl]
  exact cols_from a v cols (by omega) (by omega) (by omega) cols.length m 0 (by omega) (by omega)
theorem keys_step (a v : List S23) (cols : List Int) (n : Int) (la : a.length ≤ 60) (lv : v.length ≤ 60) (lc : cols.length ≤ 60) (j k : Nat) (hj : j < 2) (hk : 99500 ≤ k) (next : ∀ k', k ≤ k' + 2 → covenantlaw06_KeyTells.l0 k' a cols v n a cols v ((j + 1 : Nat) : Int) = some true) :
    covenantlaw06_KeyTells.l0 k a cols v n a cols v (j : Int) = some true := by
  obtain ⟨m, rfl, hm⟩ := fuel (k := k) (d := 99499) (by omega)
  obtain ⟨m, rfl, hm3⟩ := fuel (k := m) (d := 99498) (by omega)
  obtain ⟨O, hO, lO⟩ : ∃ O : List S23 × Int, O = (if MayP cols (a.length : Int) then (ofL a cols, (0 : Int)) else ([], 4)) ∧ O.1.length ≤ 60 := ⟨_, rfl, by
    split
    · simp [ofL]; omega
    · simp⟩
  obtain ⟨T, hT, lT⟩ : ∃ T : List S23 × Int, T = (if MayP cols (a.length : Int) ∧ v.length = cols.length then (setL a (cols.zip v), (0 : Int)) else ([], 4)) ∧ T.1.length ≤ 60 := ⟨_, rfl, by
    split
    · show (setL a (cols.zip v)).length ≤ 60
      rw [setL_length]; exact la
    · simp⟩
  rw [covenantlaw06_KeyTells.l0]
  rw [if_pos (by omega), of_spec a cols _ (by omega) (by omega), ref_of_spec a cols _ (by omega) (by omega), set_spec a cols v _ (by omega) (by omega) (by omega), ref_set_spec a cols v _ (by omega) (by omega) (by omega), ← hO, ← hT]
  simp only [Option.bind_some]
  rw [if_pos trivial, if_pos trivial, same4_spec _ _ _ (by omega) (by omega), Option.bind_some, if_pos (by simp), same4_spec _ _ _ (by omega) (by omega), Option.bind_some]
  rw [decide_eq_true rfl, Bool.not_true, covenantlaw06_KeyTells.j2, if_neg (by decide)]
  obtain ⟨r1, h1⟩ := spoil_any O.1 m (by omega) (by omega)
  obtain ⟨r2, h2⟩ := spoil_any T.1 m (by omega) (by omega)
  rw [h1, h2]
  simp only [Option.bind_some]
  rw [wrap_up (by omega)]
  exact next m (by omega)
theorem KeyTells_pure (a : List S23) (cols : List Int) (v : List S23) (n : Int) (hv : ∀ x ∈ v, FitV x) : covenantlaw06_KeyTells.f 100000 a cols v n = some true := by
  have out : covenantlaw06_KeyTells.j0 100000 a cols v n true = some true := by
    rw [covenantlaw06_KeyTells.j0, if_pos rfl]
    rfl
  obtain ⟨p, hp, hp2⟩ := long_spec a 100000 (by omega)
  obtain ⟨q, hq, hq2⟩ := long_spec v 100000 (by omega)
  unfold covenantlaw06_KeyTells.f
  rw [hp, Option.bind_some]
  cases p with
  | true => rw [if_pos rfl]; exact out
  | false =>
    rw [if_neg (by decide), hq, Option.bind_some]
    cases q with
    | true => rw [if_pos rfl]; exact out
    | false =>
      rw [if_neg (by decide)]
      by_cases hc : (cols.length : Int) > 60
      · rw [decide_eq_true hc]; exact out
      · rw [decide_eq_false hc]
        have la := hp2 rfl
        have lv := hq2 rfl
        have lc : cols.length ≤ 60 := by omega
        rw [covenantlaw06_KeyTells.j0]
        simp only [Option.bind_some, List.nil_append, List.length_nil, Nat.zero_add]
        rw [if_neg (by decide), if_pos (by omega), if_pos (by omega), if_pos (by omega), show (0 : Int) = ((0 : Nat) : Int) from rfl]
        exact keys_step a v cols n la lv lc 0 99999 (by omega) (by omega) (fun k' h1 => keys_step a v cols n la lv lc 1 k' (by omega) (by omega) (fun k2 h3 => keys_last a v cols n hv la lv lc k2 (by omega)))
end Go.Proofs.YtddmllocjocipaaDoor.D
