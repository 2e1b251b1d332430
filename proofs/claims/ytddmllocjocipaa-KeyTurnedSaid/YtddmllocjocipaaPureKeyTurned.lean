/- The law KeyTurned, as a statement about lists alone: with the columns turned about, the key is turned about, and whether a row refers to a key so turned is the same. Conditions: none. -/
import Derived.Test.YtddmllocjocipaaKx7
import Derived.Test.YtddmllocjocipaaSpec
namespace Go.Proofs.Ytddmllocjocipaa.K
open Go.RowKit Go.Proofs.YtddmllocjocipaaW.PrintWords Go.Proofs.YtddmllocjocipaaW.PrintLast Go.Proofs.YtddmllocjocipaaW.PrintMore

theorem may_reverse (cols : List Int) (n : Int) : MayP cols.reverse n ↔ MayP cols n := by
  unfold MayP
  have hn : cols.reverse.Nodup ↔ cols.Nodup := by
    rw [List.nodup_iff_pairwise_ne, List.nodup_iff_pairwise_ne, List.pairwise_reverse]
    exact ⟨fun h => h.imp fun h => h.symm, fun h => h.imp fun h => h.symm⟩
  rw [List.length_reverse, hn]
  simp only [List.mem_reverse]
theorem of_reverse (row : List S27) (cols : List Int) : ofL row cols.reverse = (ofL row cols).reverse := by
  unfold ofL; rw [List.map_reverse]
theorem whole_reverse (l : List S27) : wholeB l.reverse = wholeB l := by
  unfold wholeB; rw [List.length_reverse, List.all_reverse]
theorem wrap_down (i : Nat) (h : i < 4611686018427387904) : wrap64 ((i : Int) - 1) = (i : Int) - 1 := by unfold wrap64; omega
theorem rev_step {α : Type} {xs : List α} {i : Nat} (h : i < xs.length) : (xs.drop (i + 1)).reverse ++ [xs[i]] = (xs.drop i).reverse := by
  rw [List.drop_eq_getElem_cons h, List.reverse_cons]
theorem turned_j0_true (k : Nat) (hk : 0 < k) (x0 : List S27) (x1 : List Int) (x2 : List S27) : covenantlaw06_KeyTurned.j0 k x0 x1 x2 true = some true := by
  obtain ⟨m, rfl, _⟩ := fuel hk
  simp only [covenantlaw06_KeyTurned.j0, if_true, covenantlaw06_awake.f, Option.bind_some]
section
variable (row : List S27) (cols : List Int) (key : List S27) (hl : cols.length ≤ 60) (hq : key.length ≤ 60)
include hl hq
omit hq in
theorem turned_end (k : Nat) (hk : 3100 < k) : ((key_Refers.f k row cols key).bind fun t254 => ((key_Refers.f k row cols.reverse key.reverse).bind fun t255 => (if (t254 == t255) = true then ((key_Whole.f key).bind fun t256 => ((key_Whole.f key.reverse).bind fun t257 => (some (t256 == t257)))) else (some false)))) = some true := by
  rw [refers_spec row cols key k (by omega) (by omega), refers_spec row cols.reverse key.reverse k (by rw [List.length_reverse]; omega) (by omega), Option.bind_some, Option.bind_some]
  have e : (decide (MayP cols.reverse (row.length : Int)) && (wholeB (ofL row cols.reverse) && (wholeB key.reverse && decide (ofL row cols.reverse = key.reverse)))) = (decide (MayP cols (row.length : Int)) && (wholeB (ofL row cols) && (wholeB key && decide (ofL row cols = key)))) := by
    rw [of_reverse, whole_reverse, whole_reverse]
    congr 1
    · exact decide_eq_decide.2 (may_reverse _ _)
    · congr 2
      exact decide_eq_decide.2 List.reverse_inj
  rw [e, if_pos (by simp)]
  simp only [key_Whole.f, Option.bind_some, whole_reverse]
  simp
theorem l2_spec : ∀ (i k : Nat), i ≤ key.length → 3200 + i < k →
    covenantlaw06_KeyTurned.l2 k row cols key cols.reverse (key.drop i).reverse ((i : Int) - 1) = some true
  | 0, k, h, hk => by
    obtain ⟨m, rfl, _⟩ := fuel (Nat.lt_of_le_of_lt (Nat.zero_le _) hk)
    simp only [covenantlaw06_KeyTurned.l2]
    rw [if_neg (by omega), List.drop_zero]
    exact turned_end row cols key hl m (by omega)
  | i + 1, k, h, hk => by
    obtain ⟨m, rfl, _⟩ := fuel (Nat.lt_of_le_of_lt (Nat.zero_le _) hk)
    simp only [covenantlaw06_KeyTurned.l2]
    have e : ((i + 1 : Nat) : Int) - 1 = (i : Int) := by omega
    rw [e, if_pos (by omega), if_pos (by omega), if_pos (by omega), if_pos (by rw [List.length_reverse, List.length_drop]; omega), rdT_nat (xs := key) (i := i) (by omega), wrap_down i (by omega)]
    have := rev_step (xs := key) (i := i) (by omega)
    show covenantlaw06_KeyTurned.l2 m row cols key cols.reverse ((key.drop (i + 1)).reverse ++ [key[i]]) ((i : Int) - 1) = some true
    rw [this]
    exact l2_spec i m (by omega) (by omega)
theorem l1_turned (a : List S27) (ha : a.length ≤ 60) : ∀ (d k i : Nat), i + d = a.length → 4000 + d < k →
    covenantlaw06_KeyTurned.l1 k row cols key a cols.reverse a.reverse (i : Int) = some true
  | 0, k, i, h, hk => by
    obtain ⟨m, rfl, _⟩ := fuel (Nat.lt_of_le_of_lt (Nat.zero_le _) hk)
    simp only [covenantlaw06_KeyTurned.l1]
    rw [if_neg (by omega), wrap_down key.length (by omega)]
    have := l2_spec row cols key hl hq key.length m (Nat.le_refl _) (by omega)
    rwa [List.drop_length] at this
  | d + 1, k, i, h, hk => by
    obtain ⟨m, rfl, _⟩ := fuel (Nat.lt_of_le_of_lt (Nat.zero_le _) hk)
    have hi : i < a.length := by omega
    simp only [covenantlaw06_KeyTurned.l1]
    have e : wrap64 (wrap64 ((a.reverse.length : Int) - 1) - (i : Int)) = ((a.length - 1 - i : Nat) : Int) := by
      rw [List.length_reverse, wrap_down a.length (by omega)]; unfold wrap64; omega
    rw [e, if_pos (by omega), if_pos (by omega), if_pos (by omega), if_pos (by rw [List.length_reverse]; omega), rdT_nat hi, rdT_nat (by rw [List.length_reverse]; omega), wrap_up (by omega)]
    have hs : a.reverse[a.length - 1 - i]'(by rw [List.length_reverse]; omega) = a[i] := by
      rw [List.getElem_reverse]
      congr 1
      omega
    rw [hs, if_neg (fun h => (ne_test _ _).1 h rfl)]
    exact l1_turned a ha d m (i + 1) (by omega) (by omega)
theorem l0_turned (a : List S27) (e : Int) (hae : (a, e) = if MayP cols (row.length : Int) then (ofL row cols, 0) else ([], 4)) : ∀ (i k : Nat), i ≤ cols.length → 5000 + i < k →
    covenantlaw06_KeyTurned.l0 k row cols key a e (cols.drop i).reverse ((i : Int) - 1) = some true
  | 0, k, h, hk => by
    obtain ⟨m, rfl, _⟩ := fuel (Nat.lt_of_le_of_lt (Nat.zero_le _) hk)
    simp only [covenantlaw06_KeyTurned.l0]
    rw [if_neg (by omega), List.drop_zero, of_spec row cols.reverse m (by rw [List.length_reverse]; omega) (by omega), Option.bind_some]
    obtain ⟨m2, rfl, _⟩ := fuel (show 0 < m by omega)
    by_cases hm : MayP cols (row.length : Int)
    · rw [if_pos hm] at hae
      rw [if_pos ((may_reverse _ _).2 hm)]
      obtain ⟨rfl, rfl⟩ := Prod.mk.inj hae
      rw [if_pos rfl]
      simp only [covenantlaw06_KeyTurned.j2]
      rw [of_reverse, if_neg (by simp), show (0 : Int) = ((0 : Nat) : Int) from rfl]
      exact l1_turned row cols key hl hq (ofL row cols) (by simp [ofL]; omega) _ m2 0 (Nat.zero_add _) (by simp [ofL]; omega)
    · rw [if_neg hm] at hae
      rw [if_neg (fun h => hm ((may_reverse _ _).1 h))]
      obtain ⟨rfl, rfl⟩ := Prod.mk.inj hae
      rw [if_pos rfl]
      simp only [covenantlaw06_KeyTurned.j2]
      rw [if_neg (by simp), show (0 : Int) = ((0 : Nat) : Int) from rfl]
      exact l1_turned row cols key hl hq [] (by simp) 0 m2 0 rfl (by omega)
  | i + 1, k, h, hk => by
    obtain ⟨m, rfl, _⟩ := fuel (Nat.lt_of_le_of_lt (Nat.zero_le _) hk)
    simp only [covenantlaw06_KeyTurned.l0]
    have e1 : ((i + 1 : Nat) : Int) - 1 = (i : Int) := by omega
    rw [e1, if_pos (by omega), if_pos (by omega), if_pos (by omega), if_pos (by rw [List.length_reverse, List.length_drop]; omega), rd_nat (xs := cols) (i := i) (by omega), wrap_down i (by omega), rev_step (by omega)]
    exact l0_turned a e hae i m (by omega) (by omega)
end
theorem KeyTurned_pure (row : List S27) (cols : List Int) (key : List S27) : covenantlaw06_KeyTurned.f 20000 row cols key = some true := by
  obtain ⟨b0, e0, g0⟩ := long_spec row 20000 (by omega)
  obtain ⟨b1, e1, g1⟩ := long_spec key 20000 (by omega)
  unfold covenantlaw06_KeyTurned.f
  rw [e0, Option.bind_some]
  cases b0 with
  | true => rw [if_pos rfl]; exact turned_j0_true _ (by omega) _ _ _
  | false =>
    rw [if_neg (by simp), e1, Option.bind_some]
    cases b1 with
    | true => rw [if_pos rfl]; exact turned_j0_true _ (by omega) _ _ _
    | false =>
      rw [if_neg (by simp)]
      by_cases hl : (cols.length : Int) > 60
      · rw [if_pos hl]; exact turned_j0_true _ (by omega) _ _ _
      · rw [if_neg hl]
        have hq := g1 rfl
        have hl' : cols.length ≤ 60 := by omega
        simp only [covenantlaw06_awake.f, Option.bind_some, Bool.not_true]
        rw [show (20000 : Nat) = 19999 + 1 from rfl]
        simp only [covenantlaw06_KeyTurned.j0]
        rw [if_neg (by simp), of_spec row cols 19999 (by omega) (by omega), Option.bind_some, wrap_down cols.length (by omega)]
        have := l0_turned row cols key hl' hq _ _ rfl cols.length 19999 (Nat.le_refl _) (by omega)
        rwa [List.drop_length] at this
end Go.Proofs.Ytddmllocjocipaa.K
