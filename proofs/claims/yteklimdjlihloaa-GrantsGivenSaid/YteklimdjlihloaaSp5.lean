/- What large, state and the comparison of lists come to. Conditions: as each theorem states them. -/
import Derived.Test.YteklimdjlihloaaSp4
import Derived.Test.YteklimdjlihloaaGx13
import Derived.Test.YteklimdjlihloaaGx14
namespace Go.Proofs.Yteklimdjlihloaa.G
open Go.RowKit Go.Proofs.YteklimdjlihloaaW.PrintWords
open Classical
theorem rd72_nat (l : List S72) (i : Nat) (h : i < l.length) : rd_T72 l (i : Int) = l[i] := rdOf_nat z72 l i h
/-- A table of the document's, as the program has it. -/
def conv (t : S72) : S71 := ⟨t.f0, t.f1⟩
section
variable (C : List S72) (N : List ByteArray) (P : List S66) (l : List S43) (a0 a2 : Int)
variable (hN : Fits N) (hP : Fits P) (hl : Fits l)
include hP in
theorem large_l2 : ∀ (d i : Nat) (n : Int), i + d = P.length → ∃ b, ∀ k, d < k → covenantlaw19_Case_large.l2 k n (i : Int) a0 C a2 N P l = some b
  | 0, i, n, h => by
    refine ⟨decide (n > 3000), fun k hk => ?_⟩
    obtain ⟨k, rfl⟩ : ∃ m, k = m + 1 := ⟨k - 1, by omega⟩
    simp only [covenantlaw19_Case_large.l2]
    rw [if_neg (by omega)]
  | d + 1, i, n, h => by
    have hf : P.length < 4611686018427387904 := hP
    obtain ⟨b, hb⟩ := large_l2 d (i + 1) (wrap64 ((wrap64 (n + (mn (((rd_T66 P i).f0).size : Int) 1000))) + (mn (((rd_T66 P i).f1).size : Int) 1000))) (by omega)
    refine ⟨b, fun k hk => ?_⟩
    obtain ⟨k, rfl⟩ : ∃ m, k = m + 1 := ⟨k - 1, by omega⟩
    simp only [covenantlaw19_Case_large.l2]
    rw [if_pos (by omega), if_pos (by omega), wrapN i (by omega)]
    exact hb k (by omega)
include hN hP in
theorem large_l1 : ∀ (d i : Nat) (n : Int), i + d = N.length → ∃ b, ∀ k, d + P.length + 1 < k → covenantlaw19_Case_large.l1 k n (i : Int) a0 C a2 N P l = some b
  | 0, i, n, h => by
    obtain ⟨b, hb⟩ := large_l2 C N P l a0 a2 hP P.length 0 n (by omega)
    refine ⟨b, fun k hk => ?_⟩
    obtain ⟨k, rfl⟩ : ∃ m, k = m + 1 := ⟨k - 1, by omega⟩
    simp only [covenantlaw19_Case_large.l1]
    rw [if_neg (by omega)]
    exact hb k (by omega)
  | d + 1, i, n, h => by
    have hf : N.length < 4611686018427387904 := hN
    obtain ⟨b, hb⟩ := large_l1 d (i + 1) (wrap64 (n + (mn ((rdOf ByteArray.empty N i).size : Int) 1000))) (by omega)
    refine ⟨b, fun k hk => ?_⟩
    obtain ⟨k, rfl⟩ : ∃ m, k = m + 1 := ⟨k - 1, by omega⟩
    simp only [covenantlaw19_Case_large.l1]
    rw [if_pos (by omega), if_pos (by omega), wrapN i (by omega)]
    exact hb k (by omega)
include hN hP hl in
theorem large_l0 : ∀ (d i : Nat) (n : Int), i + d = l.length → ∃ b, ∀ k, d + N.length + P.length + 2 < k → covenantlaw19_Case_large.l0 k n (i : Int) a0 C a2 N P l = some b
  | 0, i, n, h => by
    obtain ⟨b, hb⟩ := large_l1 C N P l a0 a2 hN hP N.length 0 n (by omega)
    refine ⟨b, fun k hk => ?_⟩
    obtain ⟨k, rfl⟩ : ∃ m, k = m + 1 := ⟨k - 1, by omega⟩
    simp only [covenantlaw19_Case_large.l0]
    rw [if_neg (by omega)]
    exact hb k (by omega)
  | d + 1, i, n, h => by
    have hf : l.length < 4611686018427387904 := hl
    by_cases e1 : (wrap64 ((((rd_T43 l i).f0).size : Int) + (((rd_T43 l i).f1).size : Int))) > 200
    · refine ⟨true, fun k hk => ?_⟩
      obtain ⟨k, rfl⟩ : ∃ m, k = m + 1 := ⟨k - 1, by omega⟩
      simp only [covenantlaw19_Case_large.l0]
      rw [if_pos (by omega), if_pos (by omega), if_pos e1]
    · by_cases e2 : (((rd_T43 l i).f2).size : Int) > 200
      · refine ⟨true, fun k hk => ?_⟩
        obtain ⟨k, rfl⟩ : ∃ m, k = m + 1 := ⟨k - 1, by omega⟩
        simp only [covenantlaw19_Case_large.l0]
        rw [if_pos (by omega), if_pos (by omega), if_neg e1, if_pos e2]
      · obtain ⟨b, hb⟩ := large_l0 d (i + 1) n (by omega)
        refine ⟨b, fun k hk => ?_⟩
        obtain ⟨k, rfl⟩ : ∃ m, k = m + 1 := ⟨k - 1, by omega⟩
        simp only [covenantlaw19_Case_large.l0]
        rw [if_pos (by omega), if_pos (by omega), if_neg e1, if_neg e2, wrapN i (by omega)]
        exact hb k (by omega)
include hN hP hl in
theorem large_s : ∃ b, (∀ k, l.length + N.length + P.length + 4 < k → covenantlaw19_Case_large.f k a0 C a2 N P l = some b) ∧ (b = false → C.length ≤ 20 ∧ N.length ≤ 20 ∧ P.length ≤ 40 ∧ l.length ≤ 30) := by
  have jt : ∀ k, 0 < k → covenantlaw19_Case_large.j0 k true a0 C a2 N P l = some true := by
    intro k hk
    obtain ⟨k, rfl⟩ : ∃ m, k = m + 1 := ⟨k - 1, by omega⟩
    simp only [covenantlaw19_Case_large.j0, if_true]
  unfold covenantlaw19_Case_large.f
  by_cases e1 : (C.length : Int) > 20
  · exact ⟨true, fun k hk => by rw [if_pos e1]; exact jt k (by omega), fun h => by cases h⟩
  by_cases e2 : (N.length : Int) > 20
  · exact ⟨true, fun k hk => by rw [if_neg e1, if_pos e2]; exact jt k (by omega), fun h => by cases h⟩
  by_cases e3 : (P.length : Int) > 40
  · exact ⟨true, fun k hk => by rw [if_neg e1, if_neg e2, if_pos e3]; exact jt k (by omega), fun h => by cases h⟩
  by_cases e4 : (l.length : Int) > 30
  · exact ⟨true, fun k hk => by rw [if_neg e1, if_neg e2, if_neg e3, decide_eq_true e4]; exact jt k (by omega), fun h => by cases h⟩
  obtain ⟨b, hb⟩ := large_l0 C N P l a0 a2 hN hP hl l.length 0 0 (by omega)
  refine ⟨b, fun k hk => ?_, fun _ => by omega⟩
  rw [if_neg e1, if_neg e2, if_neg e3, decide_eq_false e4]
  obtain ⟨k, rfl⟩ : ∃ m, k = m + 1 := ⟨k - 1, by omega⟩
  simp only [covenantlaw19_Case_large.j0, Bool.false_eq_true, if_false]
  exact hb k (by omega)
end
theorem same_l (a b : List S43) (ha : Fits a) (he : a.length = b.length) : ∀ (d i : Nat), i + d = a.length → ∀ k, d < k → covenantref19_Same.l0 k a b (i : Int) = some (decide (a.drop i = b.drop i))
  | 0, i, h, k, hk => by
    obtain ⟨k, rfl⟩ : ∃ m, k = m + 1 := ⟨k - 1, by omega⟩
    simp only [covenantref19_Same.l0]
    rw [if_neg (by omega), List.drop_eq_nil_of_le (by omega), List.drop_eq_nil_of_le (by omega)]
    simp
  | d + 1, i, h, k, hk => by
    have hf : a.length < 4611686018427387904 := ha
    obtain ⟨k, rfl⟩ : ∃ m, k = m + 1 := ⟨k - 1, by omega⟩
    have hi : i < a.length := by omega
    have hib : i < b.length := by omega
    simp only [covenantref19_Same.l0]
    rw [if_pos (by omega), if_pos (by omega), if_pos (by omega), rd43_nat a i hi, rd43_nat b i hib, g43_bne, show a.drop i = a[i] :: a.drop (i + 1) from List.drop_eq_getElem_cons hi, show b.drop i = b[i] :: b.drop (i + 1) from List.drop_eq_getElem_cons hib]
    by_cases e : a[i] = b[i]
    · rw [if_neg (by rw [decide_eq_true e]; simp), wrapN i (by omega), same_l a b ha he d (i + 1) (by omega) k (by omega)]
      refine congrArg some (decide_eq_decide.2 ?_)
      exact ⟨fun h => by rw [e, h], fun h => (List.cons.inj h).2⟩
    · rw [if_pos (by rw [decide_eq_false e]; rfl), decide_eq_false]
      intro hh
      exact e (List.cons.inj hh).1
theorem same_s (a b : List S43) (ha : Fits a) : ∀ k, a.length < k → covenantref19_Same.f k a b = some (decide (a = b)) := by
  intro k hk
  unfold covenantref19_Same.f
  by_cases e : a.length = b.length
  · rw [if_pos (by omega)]
    have := same_l a b ha e a.length 0 (by omega) k hk
    simpa using this
  · rw [if_neg (by omega), decide_eq_false fun h => e (by rw [h])]
end Go.Proofs.Yteklimdjlihloaa.G
