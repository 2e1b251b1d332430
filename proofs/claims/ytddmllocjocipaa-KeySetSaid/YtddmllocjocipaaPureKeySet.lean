/- The law KeySet, as a statement about lists alone: the key of what was set are the values, all other columns are what they were, what is set once more to its own key is the row, and set in two steps it is as at once. Conditions: none. -/
import Derived.Test.YtddmllocjocipaaKx5
import Derived.Test.YtddmllocjocipaaSpec
namespace Go.Proofs.Ytddmllocjocipaa.K
open Go.RowKit Go.Proofs.YtddmllocjocipaaW.PrintWords Go.Proofs.YtddmllocjocipaaW.PrintLast Go.Proofs.YtddmllocjocipaaW.PrintMore

theorem getV_set_ne {row : List S27} {a c : Int} (v : S27) (ha : 0 ≤ a) (hc : 0 ≤ c) (h : a ≠ c) : getV (row.set a.toNat v) c = getV row c := by
  unfold getV rd_T27 List.getD
  rw [List.getElem?_set_ne (by omega)]
theorem getV_set_eq {row : List S27} {c : Int} (v : S27) (hc : 0 ≤ c) (hl : c < (row.length : Int)) : getV (row.set c.toNat v) c = v := by
  unfold getV rd_T27 List.getD
  rw [List.getElem?_set_self (by omega)]; rfl
theorem setL_not (ps : List (Int × S27)) : ∀ (row : List S27) (c : Int), 0 ≤ c → (∀ p ∈ ps, 0 ≤ p.1) → c ∉ ps.map (·.1) → getV (setL row ps) c = getV row c := by
  induction ps with
  | nil => intro row c _ _ _; rfl
  | cons p r ih =>
    intro row c hc hp hn
    rw [List.map_cons, List.mem_cons] at hn
    have e : setL row (p :: r) = setL (row.set p.1.toNat p.2) r := rfl
    rw [e, ih _ c hc (fun q hq => hp q (List.mem_cons_of_mem _ hq)) (fun h => hn (.inr h))]
    exact getV_set_ne _ (hp p List.mem_cons_self) hc (fun h => hn (.inl h.symm))
theorem setL_mem (ps : List (Int × S27)) : ∀ (row : List S27) (c : Int) (v : S27), (∀ p ∈ ps, 0 ≤ p.1 ∧ p.1 < (row.length : Int)) → (ps.map (·.1)).Nodup → (c, v) ∈ ps → getV (setL row ps) c = v := by
  induction ps with
  | nil => intro row c v _ _ h; cases h
  | cons p r ih =>
    intro row c v hp hn hm
    rw [List.map_cons, List.nodup_cons] at hn
    have e : setL row (p :: r) = setL (row.set p.1.toNat p.2) r := rfl
    have h0 := hp p List.mem_cons_self
    rw [e]
    rcases List.mem_cons.1 hm with h | h
    · subst h
      rw [setL_not r _ c h0.1 (fun q hq => (hp q (List.mem_cons_of_mem _ hq)).1) hn.1]
      exact getV_set_eq _ h0.1 h0.2
    · exact ih _ c v (fun q hq => by rw [List.length_set]; exact hp q (List.mem_cons_of_mem _ hq)) hn.2 h
theorem zip_keys {cols : List Int} {vals : List S27} (he : vals.length = cols.length) : (cols.zip vals).map (·.1) = cols := by
  rw [List.map_fst_zip (by omega)]
theorem zip_range {cols : List Int} {vals : List S27} {n : Int} (hc : ∀ c ∈ cols, 0 ≤ c ∧ c < n) : ∀ p ∈ cols.zip vals, 0 ≤ p.1 ∧ p.1 < n := fun p hp =>
  hc p.1 (List.of_mem_zip (a := p.1) (b := p.2) hp).1
theorem of_set {row : List S27} {cols : List Int} {vals : List S27} (hm : MayP cols (row.length : Int)) (he : vals.length = cols.length) : ofL (setL row (cols.zip vals)) cols = vals := by
  apply List.ext_getElem
  · simp [ofL, he]
  · intro i h1 h2
    have hi : i < cols.length := by omega
    have e : (ofL (setL row (cols.zip vals)) cols)[i] = getV (setL row (cols.zip vals)) cols[i] := by simp [ofL]
    rw [e]
    refine setL_mem _ row _ _ (zip_range hm.2.2.1) (by rw [zip_keys he]; exact hm.2.2.2) ?_
    have hz : i < (cols.zip vals).length := by rw [List.length_zip]; omega
    have := List.getElem_mem hz
    rwa [List.getElem_zip] at this
theorem set_other {row : List S27} {cols : List Int} {vals : List S27} (hm : MayP cols (row.length : Int)) (he : vals.length = cols.length) {c : Int} (h0 : 0 ≤ c) (hn : c ∉ cols) : getV (setL row (cols.zip vals)) c = getV row c :=
  setL_not _ row c h0 (fun p hp => (zip_range hm.2.2.1 p hp).1) (by rw [zip_keys he]; exact hn)
theorem set_own {row : List S27} {cols : List Int} (hm : MayP cols (row.length : Int)) : setL row (cols.zip (ofL row cols)) = row := by
  have he : (ofL row cols).length = cols.length := by simp [ofL]
  apply List.ext_getElem
  · exact setL_length _ _
  · intro j h1 h2
    have e : getV (setL row (cols.zip (ofL row cols))) (j : Int) = getV row (j : Int) := by
      by_cases hj : (j : Int) ∈ cols
      · obtain ⟨i, hi, hc⟩ := List.getElem_of_mem hj
        refine setL_mem _ row _ _ (zip_range hm.2.2.1) (by rw [zip_keys he]; exact hm.2.2.2) ?_
        have hz : i < (cols.zip (ofL row cols)).length := by rw [List.length_zip]; omega
        have := List.getElem_mem hz
        rw [List.getElem_zip] at this
        simp only [ofL, List.getElem_map] at this
        rw [hc] at this
        exact this
      · exact set_other hm he (Int.natCast_nonneg _) hj
    unfold getV at e
    rw [rdT_nat h1, rdT_nat h2] at e
    exact e
theorem set_steps (row : List S27) (cols : List Int) (vals : List S27) (a : Nat) (he : vals.length = cols.length) :
    setL (setL row ((cols.take a).zip (vals.take a))) ((cols.drop a).zip (vals.drop a)) = setL row (cols.zip vals) := by
  unfold setL
  rw [← List.foldl_append, ← List.zip_append (by rw [List.length_take, List.length_take]; omega), List.take_append_drop, List.take_append_drop]
theorem may_take {cols : List Int} {n : Int} {a : Nat} (hm : MayP cols n) (h0 : 0 < a) (h1 : a < cols.length) : MayP (cols.take a) n := by
  refine ⟨by rw [List.length_take]; omega, by rw [List.length_take]; have := hm.2.1; omega, fun c hc => hm.2.2.1 c (List.mem_of_mem_take hc), hm.2.2.2.sublist (List.take_sublist _ _)⟩
theorem may_drop {cols : List Int} {n : Int} {a : Nat} (hm : MayP cols n) (h1 : a < cols.length) : MayP (cols.drop a) n := by
  refine ⟨by rw [List.length_drop]; omega, by rw [List.length_drop]; have := hm.2.1; omega, fun c hc => hm.2.2.1 c (List.mem_of_mem_drop hc), hm.2.2.2.sublist (List.drop_sublist _ _)⟩

/-! ### the law's own steps -/
theorem j0_true (k : Nat) (hk : 0 < k) (x0 : List S27) (x1 : List Int) (x2 : List S27) (x3 : Int) : covenantlaw06_KeySet.j0 k x0 x1 x2 x3 true = some true := by
  obtain ⟨m, rfl, _⟩ := fuel hk
  simp only [covenantlaw06_KeySet.j0, if_true, covenantlaw06_awake.f, Option.bind_some]
section
variable {row : List S27} {cols : List Int} {vals : List S27} (hm : MayP cols (row.length : Int)) (he : vals.length = cols.length) (hr : row.length ≤ 60) (hl : cols.length ≤ 60)
include hm he hr hl
theorem j5_spec (x20 : Int) (h0 : 0 ≤ x20) (h1 : x20 ≤ (cols.length : Int)) (b : Bool) (hb : b = (x20 == 0 || x20 == (cols.length : Int))) (k : Nat) (hk : 3100 < k) :
    covenantlaw06_KeySet.j5 k row cols vals (setL row (cols.zip vals)) x20 b = some true := by
  obtain ⟨m, rfl, hm'⟩ := fuel hk
  simp only [covenantlaw06_KeySet.j5]
  by_cases hbt : b = true
  · rw [if_pos hbt]
  · rw [if_neg hbt]
    have hbf : b = false := by simpa using hbt
    rw [hb] at hbf
    simp at hbf
    obtain ⟨a, rfl⟩ := Int.eq_ofNat_of_zero_le h0
    have ha0 : 0 < a := by omega
    have ha1 : a < cols.length := by omega
    have hlen : (setL row ((cols.take a).zip (vals.take a))).length = row.length := setL_length _ _
    rw [if_pos h0, if_pos h1, if_pos (by omega), Int.toNat_natCast]
    rw [set_spec row (cols.take a) (vals.take a) m (by omega) (by rw [List.length_take]; omega) (by omega)]
    rw [if_pos ⟨may_take hm ha0 ha1, by rw [List.length_take, List.length_take]; omega⟩, Option.bind_some]
    rw [set_spec _ (cols.drop a) (vals.drop a) m (by show (setL row ((cols.take a).zip (vals.take a))).length < _; omega) (by rw [List.length_drop]; omega) (by omega)]
    rw [if_pos ⟨by show MayP (cols.drop a) ((setL row ((cols.take a).zip (vals.take a))).length : Int); rw [hlen]; exact may_drop hm ha1, by rw [List.length_drop, List.length_drop]; omega⟩, Option.bind_some, if_pos rfl, if_pos rfl]
    have hs := set_steps row cols vals a he
    show (covenantref04_Same.f m (setL (setL row ((cols.take a).zip (vals.take a))) ((cols.drop a).zip (vals.drop a))) (setL row (cols.zip vals))).bind _ = _
    rw [hs, same4_spec _ _ m (by rw [setL_length]; omega) (by rw [setL_length]; omega)]
    simp
theorem l1_spec (x3 : Int) (i F : Nat) (hi : i < row.length)
    (H : ∀ k, F < k → covenantlaw06_KeySet.l0 k row cols vals x3 (setL row (cols.zip vals)) ((i + 1 : Nat) : Int) = some true) :
    ∀ (d k j : Nat) (b : Bool), j + d = cols.length → (b = false → ∀ q, (h : q < cols.length) → q < j → cols[q] ≠ (i : Int)) → d + F + 1 < k →
    covenantlaw06_KeySet.l1 k row cols vals x3 (setL row (cols.zip vals)) (i : Int) b (j : Int) = some true
  | 0, k, j, b, h, hb, hk => by
    obtain ⟨m, rfl, _⟩ := fuel hk
    simp only [covenantlaw06_KeySet.l1]
    rw [if_neg (by omega)]
    have hlen : (setL row (cols.zip vals)).length = row.length := setL_length _ _
    cases b with
    | true => rw [if_pos rfl, wrap_up (by omega)]; exact H m (by omega)
    | false =>
      rw [if_neg (by simp), if_pos (by omega), if_pos (by omega), if_pos (by omega)]
      have hn : (i : Int) ∉ cols := fun hc => by
        obtain ⟨q, hq, e⟩ := List.getElem_of_mem hc
        exact hb rfl q hq (by omega) e
      have e := set_other hm he (Int.natCast_nonneg i) hn
      unfold getV at e
      rw [if_neg (fun h => (ne_test _ _).1 h e), wrap_up (by omega)]
      exact H m (by omega)
  | d + 1, k, j, b, h, hb, hk => by
    obtain ⟨m, rfl, hm'⟩ := fuel hk
    have hj : j < cols.length := by omega
    simp only [covenantlaw06_KeySet.l1]
    rw [if_pos (by omega)]
    cases b with
    | true =>
      rw [if_pos rfl, wrap_up (by omega)]
      exact l1_spec x3 i F hi H d m (j + 1) true (by omega) (by simp) (by omega)
    | false =>
      rw [if_neg (by simp), if_pos (by omega), wrap_up (by omega), rd_nat hj]
      refine l1_spec x3 i F hi H d m (j + 1) _ (by omega) (fun hf q hq hqj => ?_) (by omega)
      by_cases e : q = j
      · subst e; simpa using hf
      · exact hb rfl q hq (by omega)
theorem l0_spec (x3 : Int) (h3 : -9223372036854775808 ≤ x3) (h4 : x3 ≤ 9223372036854775807) : ∀ (d k i : Nat), i + d = row.length → 4000 + 100 * d < k →
    covenantlaw06_KeySet.l0 k row cols vals x3 (setL row (cols.zip vals)) (i : Int) = some true
  | 0, k, i, h, hk => by
    obtain ⟨m, rfl, hm'⟩ := fuel hk
    simp only [covenantlaw06_KeySet.l0]
    rw [if_neg (by omega)]
    have e1 : IntKind.u64.wrap (wrap64 ((cols.length : Int) + 1)) = (cols.length : Int) + 1 := by
      rw [wrap_up (by omega)]
      simp [IntKind.wrap, IntKind.bits, IntKind.signed]
      omega
    have e2 : 0 ≤ IntKind.u64.wrap x3 := by
      simp [IntKind.wrap, IntKind.bits, IntKind.signed]
      omega
    rw [e1, if_neg (by omega)]
    have e3 : 0 ≤ Int.tmod (IntKind.u64.wrap x3) ((cols.length : Int) + 1) ∧ Int.tmod (IntKind.u64.wrap x3) ((cols.length : Int) + 1) ≤ (cols.length : Int) := by
      rw [Int.tmod_eq_emod_of_nonneg e2]
      have := Int.emod_nonneg (IntKind.u64.wrap x3) (b := (cols.length : Int) + 1) (by omega)
      have := Int.emod_lt_of_pos (IntKind.u64.wrap x3) (b := (cols.length : Int) + 1) (by omega)
      omega
    have e4 : wrap64 (Int.tmod (IntKind.u64.wrap x3) ((cols.length : Int) + 1)) = Int.tmod (IntKind.u64.wrap x3) ((cols.length : Int) + 1) := by
      unfold wrap64; omega
    rw [e4]
    generalize Int.tmod (IntKind.u64.wrap x3) ((cols.length : Int) + 1) = t at *
    by_cases ht : t = 0
    · rw [if_pos ht]; exact j5_spec hm he hr hl t e3.1 e3.2 _ (by simp [ht]) m (by omega)
    · rw [if_neg ht]; exact j5_spec hm he hr hl t e3.1 e3.2 _ (by simp [ht]) m (by omega)
  | d + 1, k, i, h, hk => by
    obtain ⟨m, rfl, hm'⟩ := fuel hk
    simp only [covenantlaw06_KeySet.l0]
    rw [if_pos (by omega)]
    exact l1_spec hm he hr hl x3 i (4000 + 100 * d) (by omega) (fun k' hk' => l0_spec x3 h3 h4 d k' (i + 1) (by omega) (by omega)) cols.length m 0 false (by omega) (fun _ q _ hq => by omega) (by omega)
end
theorem KeySet_pure (row : List S27) (cols : List Int) (vals : List S27) (n : Int) (h3 : -9223372036854775808 ≤ n) (h4 : n ≤ 9223372036854775807) :
    covenantlaw06_KeySet.f 20000 row cols vals n = some true := by
  obtain ⟨b0, e0, g0⟩ := long_spec row 20000 (by omega)
  obtain ⟨b1, e1, g1⟩ := long_spec vals 20000 (by omega)
  unfold covenantlaw06_KeySet.f
  rw [e0, Option.bind_some]
  cases b0 with
  | true => rw [if_pos rfl]; exact j0_true _ (by omega) _ _ _ _
  | false =>
    rw [if_neg (by simp), e1, Option.bind_some]
    cases b1 with
    | true => rw [if_pos rfl]; exact j0_true _ (by omega) _ _ _ _
    | false =>
      rw [if_neg (by simp)]
      by_cases hl : (cols.length : Int) > 60
      · rw [if_pos hl]; exact j0_true _ (by omega) _ _ _ _
      · rw [if_neg hl]
        have hr := g0 rfl
        have hl' : cols.length ≤ 60 := by omega
        simp only [covenantlaw06_awake.f, Option.bind_some]
        simp only [Bool.not_true]
        rw [show (20000 : Nat) = 19999 + 1 from rfl]
        simp only [covenantlaw06_KeySet.j0]
        rw [if_neg (by simp), set_spec row cols vals 19999 (by omega) (by omega) (by omega), Option.bind_some, may_spec cols _ 19999 (by omega) (by omega), Option.bind_some]
        by_cases hp : MayP cols (row.length : Int) ∧ vals.length = cols.length
        · obtain ⟨hm, he⟩ := hp
          have hlen : (setL row (cols.zip vals)).length = row.length := setL_length _ _
          rw [if_pos (show MayP cols (row.length : Int) ∧ vals.length = cols.length from ⟨hm, he⟩), if_pos (show decide (MayP cols (row.length : Int)) = true by simpa using hm), show (19999 : Nat) = 19998 + 1 from rfl]
          simp only [covenantlaw06_KeySet.j1]
          rw [if_neg (by simp; omega), if_pos trivial]
          rw [of_spec _ cols 19998 (by omega) (by omega), of_spec row cols 19998 (by omega) (by omega)]
          rw [hlen, if_pos hm, if_pos hm, Option.bind_some, Option.bind_some]
          have ho : (ofL row cols).length = cols.length := by simp [ofL]
          show (key_Set.f 19998 row cols (ofL row cols)).bind _ = _
          rw [set_spec row cols (ofL row cols) 19998 (by omega) (by omega) (by omega), if_pos ⟨hm, ho⟩, Option.bind_some]
          rw [if_pos rfl, if_pos rfl, if_pos rfl]
          show (covenantref04_Same.f 19998 (ofL (setL row (cols.zip vals)) cols) vals).bind _ = _
          rw [of_set hm he, same4_spec vals vals 19998 (by omega) (by omega), Option.bind_some, if_pos (by simp)]
          show (covenantref04_Same.f 19998 (setL row (cols.zip (ofL row cols))) row).bind _ = _
          rw [set_own hm, same4_spec row row 19998 (by omega) (by omega), Option.bind_some, if_pos (by simp), show (19998 : Nat) = 19997 + 1 from rfl]
          simp only [covenantlaw06_KeySet.j2]
          rw [if_neg (by simp), show (0 : Int) = ((0 : Nat) : Int) from rfl]
          exact l0_spec hm he hr hl' n h3 h4 row.length 19997 0 (by omega) (by omega)
        · rw [if_neg hp]
          by_cases hm : MayP cols (row.length : Int)
          · rw [if_pos (by simpa using hm), show (19999 : Nat) = 19998 + 1 from rfl]
            simp only [covenantlaw06_KeySet.j1]
            rw [if_neg (by simp; exact fun h => hp ⟨hm, by omega⟩), if_neg (by decide)]
            rfl
          · rw [if_neg (by simpa using hm), show (19999 : Nat) = 19998 + 1 from rfl]
            simp only [covenantlaw06_KeySet.j1]
            rw [if_neg (by simp), if_neg (by decide)]
            rfl
end Go.Proofs.Ytddmllocjocipaa.K
