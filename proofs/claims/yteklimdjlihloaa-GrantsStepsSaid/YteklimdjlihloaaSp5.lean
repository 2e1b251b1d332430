/- What large, state and the comparison of lists come to. Conditions: as each theorem states them. -/
import Derived.Test.YteklimdjlihloaaSp4
import Derived.Test.YteklimdjlihloaaGx13
import Derived.Test.YteklimdjlihloaaGx14
namespace Go.Proofs.Yteklimdjlihloaa.G
open Go.RowKit Go.Proofs.YteklimdjlihloaaW.PrintWords
open Classical
theorem rd72_nat (l : List S72) (i : Nat) (h : i < l.length) : rd_T72 l (i : Int) = l[i] := rdOf_nat z72 l i h
/-- A table of the document's, as the program has it. -/
def conv (t : S72) : S71 := ⟨t.f0, t.f1⟩
section
variable (C : List S72) (N : List ByteArray) (P : List S66) (l : List S43) (a0 a2 : Int)
variable (hN : Fits N) (hP : Fits P) (hl : Fits l)
include hP in
theorem large_l2 : ∀ (d i : Nat) (n : Int), i + d = P.length → ∃ b, ∀ k, d < k → covenantlaw19_Case_large.l2 k n (i : Int) a0 C a2 N P l = some b
  | 0, i, n, h => by
    refine ⟨decide (n > 3000), fun k hk => ?_⟩
    obtain ⟨k, rfl⟩ : ∃ m, k = m + 1 := ⟨k - 1, by omega⟩
    simp only [covenantlaw19_Case_large.l2]
    rw [if_neg (by omega)]
  | d + 1, i, n, h => by
    have hf : P.length < 4611686018427387904 := hP
    obtain ⟨b, hb⟩ := large_l2 d (i + 1) (wrap64 ((wrap64 (n + (mn (((rd_T66 P i).f0).size : Int) 1000))) + (mn (((rd_T66 P i).f1).size : Int) 1000))) (by omega)
    refine ⟨b, fun k hk => ?_⟩
    obtain ⟨k, rfl⟩ : ∃ m, k = m + 1 := ⟨k - 1, by omega⟩
    simp only [covenantlaw19_Case_large.l2]
    rw [if_pos (by omega), if_pos (by omega), wrapN i (by omega)]
    exact hb k (by omega)
include hN hP in
theorem large_l1 : ∀ (d i : Nat) (n : Int), i + d = N.length → ∃ b, ∀ k, d + P.length + 1 < k → covenantlaw19_Case_large.l1 k n (i : Int) a0 C a2 N P l = some b
  | 0, i, n, h => by
    obtain ⟨b, hb⟩ := large_l2 C N P l a0 a2 hP P.length 0 n (by omega)
    refine ⟨b, fun k hk => ?_⟩
    obtain ⟨k, rfl⟩ : ∃ m, k = m + 1 := ⟨k - 1, by omega⟩
    simp only [covenantlaw19_Case_large.l1]
    rw [if_neg (by omega)]
    exact hb k (by omega)
  | d + 1, i, n, h => by
    have hf : N.length < 4611686018427387904 := hN
    obtain ⟨b, hb⟩ := large_l1 d (i + 1) (wrap64 (n + (mn ((rdOf ByteArray.empty N i).size : Int) 1000))) (by omega)
    refine ⟨b, fun k hk => ?_⟩
    obtain ⟨k, rfl⟩ : ∃ m, k = m + 1 := ⟨k - 1, by omega⟩
    simp only [covenantlaw19_Case_large.l1]
    rw [if_pos (by omega), if_pos (by omega), wrapN i (by omega)]
    exact hb k (by omega)
include hN hP hl in
theorem large_l0 : ∀ (d i : Nat) (n : Int), i + d = l.length → ∃ b, ∀ k, d + N.length + P.length + 2 < k → covenantlaw19_Case_large.l0 k n (i : Int) a0 C a2 N P l = some b
  | 0, i, n, h => by
    obtain ⟨b, hb⟩ := large_l1 C N P l a0 a2 hN hP N.length 0 n (by omega)
    refine ⟨b, fun k hk => ?_⟩
    obtain ⟨k, rfl⟩ : ∃ m, k = m + 1 := ⟨k - 1, by omega⟩
    simp only [covenantlaw19_Case_large.l0]
    rw [if_neg (by omega)]
    exact hb k (by omega)
  | d + 1, i, n, h => by
    have hf : l.length < 4611686018427387904 := hl
    by_cases e1 : (wrap64 ((((rd_T43 l i).f0).size : Int) + (((rd_T43 l i).f1).size : Int))) > 200
    · refine ⟨true, fun k hk => ?_⟩
      obtain ⟨k, rfl⟩ : ∃ m, k = m + 1 := ⟨k - 1, by omega⟩
      simp only [covenantlaw19_Case_large.l0]
      rw [if_pos (by omega), if_pos (by omega), if_pos e1]
    · by_cases e2 : (((rd_T43 l i).f2).size : Int) > 200
      · refine ⟨true, fun k hk => ?_⟩
        obtain ⟨k, rfl⟩ : ∃ m, k = m + 1 := ⟨k - 1, by omega⟩
        simp only [covenantlaw19_Case_large.l0]
        rw [if_pos (by omega), if_pos (by omega), if_neg e1, if_pos e2]
      · obtain ⟨b, hb⟩ := large_l0 d (i + 1) n (by omega)
        refine ⟨b, fun k hk => ?_⟩
        obtain ⟨k, rfl⟩ : ∃ m, k = m + 1 := ⟨k - 1, by omega⟩
        simp only [covenantlaw19_Case_large.l0]
        rw [if_pos (by omega), if_pos (by omega), if_neg e1, if_neg e2, wrapN i (by omega)]
        exact hb k (by omega)
include hN hP hl in
theorem large_s : ∃ b, (∀ k, l.length + N.length + P.length + 4 < k → covenantlaw19_Case_large.f k a0 C a2 N P l = some b) ∧ (b = false → C.length ≤ 20 ∧ N.length ≤ 20 ∧ P.length ≤ 40 ∧ l.length ≤ 30) := by
  have jt : ∀ k, 0 < k → covenantlaw19_Case_large.j0 k true a0 C a2 N P l = some true := by
    intro k hk
    obtain ⟨k, rfl⟩ : ∃ m, k = m + 1 := ⟨k - 1, by omega⟩
    simp only [covenantlaw19_Case_large.j0, if_true]
  unfold covenantlaw19_Case_large.f
  by_cases e1 : (C.length : Int) > 20
  · exact ⟨true, fun k hk => by rw [if_pos e1]; exact jt k (by omega), fun h => by cases h⟩
  by_cases e2 : (N.length : Int) > 20
  · exact ⟨true, fun k hk => by rw [if_neg e1, if_pos e2]; exact jt k (by omega), fun h => by cases h⟩
  by_cases e3 : (P.length : Int) > 40
  · exact ⟨true, fun k hk => by rw [if_neg e1, if_neg e2, if_pos e3]; exact jt k (by omega), fun h => by cases h⟩
  by_cases e4 : (l.length : Int) > 30
  · exact ⟨true, fun k hk => by rw [if_neg e1, if_neg e2, if_neg e3, decide_eq_true e4]; exact jt k (by omega), fun h => by cases h⟩
  obtain ⟨b, hb⟩ := large_l0 C N P l a0 a2 hN hP hl l.length 0 0 (by omega)
  refine ⟨b, fun k hk => ?_, fun _ => by omega⟩
  rw [if_neg e1, if_neg e2, if_neg e3, decide_eq_false e4]
  obtain ⟨k, rfl⟩ : ∃ m, k = m + 1 := ⟨k - 1, by omega⟩
  simp only [covenantlaw19_Case_large.j0, Bool.false_eq_true, if_false]
  exact hb k (by omega)
end
end Go.Proofs.Yteklimdjlihloaa.G
