/- A column's row of cells, as it can be read; the tables whose columns can be read. Conditions: none. -/
import Derived.Test.YteklimdjlihloaaGx0
namespace Go.Proofs.Yteklimdjlihloaa.G
open Go.RowKit Go.Proofs.YteklimdjlihloaaW.PrintWords
/-- Six cells, whatever they hold. -/
def Raw : Type := { x : List Value // x.length = 6 ∧ ∀ u ∈ x, u.oneCell' = true }
def kRaw : Kd Raw where
  sz := 6
  E := []
  K := fun _ x cs => cs = x.1
  M := fun _ _ _ x cs => cs = x.1
  K_len := fun {_ x _} h => by rw [h]; exact x.2.1
  K_one := fun {_ x _} h u hu => x.2.2 u (by rw [← h]; exact hu)
  K_below := fun _ h => h
  K_of_M := fun h => h
  M_mono := fun _ h => h
  M_bound := fun h => h
  M_move := fun _ h => h
  M_lower := fun _ h => h
/-- A slice of columns that can be read. -/
def ColR (w : World) (v : Value) : Prop := ∃ (A : Option Addr) (c : Nat) (xs : List Raw), v = .slice A xs.length c ∧ xs.length ≤ c ∧ Kd.C kRaw w A xs.length xs ∧ xs.length < 2199023255552
theorem ColR.keep {w w' : World} {v : Value} (h : ColR w v) (hb : Below w.heap.size w w') : ColR w' v := by
  obtain ⟨A, c, xs, e, hc, hr, hl⟩ := h
  exact ⟨A, c, xs, e, hc, Kd.C_below hr hb, hl⟩
/-- The columns of each of these tables can be read. -/
def TS (l : List S71) (w : World) : Prop := ∀ t ∈ l, ColR w (tokV t.f1.f1)
theorem TS.keep {l : List S71} {w w' : World} (h : TS l w) (hb : Below w.heap.size w w') : TS l w' := fun t ht => (h t ht).keep hb
@[go_sem] theorem cells_tok2 (x : Int) : Value.cells.match_1 (fun _ => Array Value) (tokV x) (fun cs => cs) (fun v => #[v]) = #[tokV x] := rfl
theorem colR_blk {w : World} {g t : Nat} {v0 v1 v2 v3 v4 v5 : Value} {u : Int} (hu : tokV u = .slice (some ⟨g, 0, none⟩) 1 1) (h : w.heap[g]? = some (.cells #[v0, v1, v2, v3, v4, v5] t (0, 0))) (h1 : ∀ x ∈ [v0, v1, v2, v3, v4, v5], x.oneCell' = true) : ColR w (tokV u) := by
  obtain ⟨r, hr⟩ : ∃ r : Raw, r.1 = [v0, v1, v2, v3, v4, v5] := ⟨⟨_, rfl, h1⟩, rfl⟩
  refine ⟨some ⟨g, 0, none⟩, 1, [r], hu, Nat.le_refl _, ⟨rfl, by simp, fun _ => ⟨_, rfl, fun j p hj => ?_⟩⟩, by simp⟩
  match j, hj with
  | 0, hj =>
    obtain rfl : r = p := by simpa using hj
    refine ⟨[v0, v1, v2, v3, v4, v5], rfl, hr.symm, fun i u hu => ?_⟩
    have := blk_cell h i
    rw [show (⟨g, 0, none⟩ : Addr).add (0 * kRaw.sz + i) = ⟨g, i, none⟩ from by rw [Nat.zero_mul, Nat.zero_add]; unfold Addr.add; split <;> simp_all]
    exact this.trans (by simpa using hu)
  | j + 1, hj => simp at hj
end Go.Proofs.Yteklimdjlihloaa.G
