/- What the library's variables hold, as the functions over them ask it of a world, and the library's functions by their contracts. Conditions: as each theorem states them. -/
import Derived.Test.YtddmllocjocipaaDoorShelf
import Derived.Shelf.Vars
import Derived.Stop.LaidErr
import Derived.Lib.LaidTab
import Derived.WalkKit
import Derived.Below
namespace Go.Proofs.YtddmllocjocipaaDoor.D
open Go.RowKit Go.Lib

theorem g0 : Tryd.prog.globalNamed "internal/bytealg.MaxLen" = some 0 := by kernel_rfl
theorem g3 : Tryd.prog.globalNamed "internal/strconv.uint64pow10" = some 3 := by kernel_rfl
theorem g4 : Tryd.prog.globalNamed "strconv.ErrSyntax" = some 4 := by kernel_rfl
theorem g5 : Tryd.prog.globalNamed "strconv.ErrRange" = some 5 := by kernel_rfl

/-- What the library's variables hold: some number; the table of tens; where q says so, two errors. -/
structure GW (q : Bool) (w : World) : Prop where
  max : ∃ m, w.cell? ⟨0, 0, none⟩ = some (.int .i64 m)
  tab : TabIs Tryd.prog w "internal/strconv.uint64pow10" .u64 pow10Tab
  syn : q = true → ∃ t p, w.cell? ⟨4, 0, none⟩ = some (.iface t p)
  rng : q = true → ∃ t p, w.cell? ⟨5, 0, none⟩ = some (.iface t p)

theorem bsz (a : Array UInt8) : (⟨a⟩ : ByteArray).size = a.size := rfl

theorem cell_lt {w : World} {b : Nat} {v : Value} (h : w.cell? ⟨b, 0, none⟩ = some v) : b < w.heap.size := by
  rcases Nat.lt_or_ge b w.heap.size with h1 | h1
  · exact h1
  · simp [World.cell?, Array.getElem?_eq_none h1] at h

theorem tab_keep {w w' : World} (h : TabIs Tryd.prog w "internal/strconv.uint64pow10" .u64 pow10Tab) (hb : Below w.heap.size w w') : TabIs Tryd.prog w' "internal/strconv.uint64pow10" .u64 pow10Tab := by
  unfold TabIs World.var? at h ⊢
  rw [g3] at h ⊢
  simp only [Option.bind_some] at h ⊢
  have hlt : 3 < w.heap.size := by
    rcases Nat.lt_or_ge 3 w.heap.size with h1 | h1
    · exact h1
    · rw [Array.getElem?_eq_none h1] at h
      cases h
  rw [hb.block 3 hlt]
  exact h

theorem GW.keep {q : Bool} {w w' : World} (h : GW q w) (b : Below w.heap.size w w') : GW q w' := by
  refine ⟨?_, tab_keep h.tab b, ?_, ?_⟩
  · obtain ⟨m, hm⟩ := h.max
    exact ⟨m, (b.cell (p := ⟨0, 0, none⟩) (cell_lt hm)).trans hm⟩
  · intro hq
    obtain ⟨t, p, hm⟩ := h.syn hq
    exact ⟨t, p, (b.cell (p := ⟨4, 0, none⟩) (cell_lt hm)).trans hm⟩
  · intro hq
    obtain ⟨t, p, hm⟩ := h.rng hq
    exact ⟨t, p, (b.cell (p := ⟨5, 0, none⟩) (cell_lt hm)).trans hm⟩

theorem max_of_shape {w : World} (h : w.ShapedOpen Tryd.prog) : ∃ m, w.cell? ⟨0, 0, none⟩ = some (.int .i64 m) :=
  cell_of_shapedOpen_int (P := Tryd.prog) (g := 0) (t := 3) (zero := #[.int .i64 0]) h (of_decide_eq_true (by kernel_rfl)) (by kernel_rfl) rfl (by kernel_rfl) (by kernel_rfl) Tryd.underlying3

end Go.Proofs.YtddmllocjocipaaDoor.D
