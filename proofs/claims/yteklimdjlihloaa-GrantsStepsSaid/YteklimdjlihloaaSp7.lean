/- The stand-ins' values at a case's own lists; what a right of a well-formed grant is. Conditions: as each theorem states them. -/
import Derived.Test.YteklimdjlihloaaSp6
import Derived.Test.YteklimdjlihloaaHs
namespace Go.Proofs.Yteklimdjlihloaa.G
open Go.RowKit Go.Proofs.YteklimdjlihloaaW.PrintWords
open Classical
/-- Each grant's rights are a byte. -/
def Byte (l : List S43) : Prop := ∀ g ∈ l, 0 ≤ g.f3 ∧ g.f3 < 256
section
variable [Inhabited CtxS]
theorem h_state_s (l : List S43) (a0 a2 : Int) : ∀ (d i : Nat) (out : List S71), i + d = X.C.length → out.length ≤ i → ∀ k, d < k →
    h_Case_state.l0 k (i : Int) a0 X.C a2 X.tN X.tP l a0 out 0 = some (a0, out ++ (X.C.drop i).map conv, 0)
  | 0, i, out, h, ho, k, hk => by
    obtain ⟨k, rfl⟩ : ∃ m, k = m + 1 := ⟨k - 1, by omega⟩
    simp only [h_Case_state.l0]
    rw [if_neg (by omega), List.drop_eq_nil_of_le (by omega)]
    simp
  | d + 1, i, out, h, ho, k, hk => by
    obtain ⟨k, rfl⟩ : ∃ m, k = m + 1 := ⟨k - 1, by omega⟩
    have hi : i < X.C.length := by omega
    have hC := X.hC
    simp only [h_Case_state.l0]
    rw [if_pos (by omega), if_pos (by omega), if_pos (by omega), wrapN i (by omega), rd72_nat X.C i hi, h_state_s l a0 a2 d (i + 1) _ (by omega) (by rw [List.length_append, List.length_singleton]; omega) k (by omega), List.append_assoc, List.singleton_append]
    have e : X.C.drop i = X.C[i] :: X.C.drop (i + 1) := List.drop_eq_getElem_cons hi
    rw [e, List.map_cons]
    rfl
theorem h_state (l : List S43) (a0 a2 : Int) : ∀ k, X.C.length < k → h_Case_state.f k a0 X.C a2 X.tN X.tP l = some (a0, XT, 0) := by
  intro k hk
  have := h_state_s l a0 a2 X.C.length 0 [] (by omega) (Nat.zero_le _) k hk
  simpa [h_Case_state.f, XT] using this
theorem h_large (l : List S43) (a0 a2 : Int) (hl : Fits l) : h_Case_large.f a0 X.C a2 X.tN X.tP l = some (largeP l) := by
  unfold h_Case_large.f
  rw [if_pos ⟨rfl, rfl, rfl, hl⟩]
theorem h_counts (a0 a2 : Int) (l : List S43) (hl : l.length < 1000000000000) : h_Counts.f a0 XT a2 X.tN X.tP l = some (l.map fun g => decide (CV XT X.N X.P l g)) := by
  unfold h_Counts.f
  rw [if_pos ⟨rfl, rfl, rfl, hl⟩, counts_map]
end
end Go.Proofs.Yteklimdjlihloaa.G
