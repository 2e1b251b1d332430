/- How an argument that is a slice of values, or of columns, is read as a list, and how long its texts may be. Conditions: none. -/
import Derived.Test.YtddmllocjocipaaDoorOpen
namespace Go.Proofs.YtddmllocjocipaaDoor.D
set_option maxRecDepth 100000
open Go.RowKit Go.Proofs.YtddmllocjocipaaDoorW.PrintWords Go.Proofs.YtddmllocjocipaaDoorW.PrintLast Go.Proofs.YtddmllocjocipaaDoorW.PrintMore
open Go.ChangeShapes Go.WideShapes Go.Deep Go.Joins
theorem cells5 : Tryd.prog.cellsOf 5 = 1 := by kernel_rfl
theorem cells2 : Tryd.prog.cellsOf 2 = 1 := by kernel_rfl
theorem cells9 : Tryd.prog.cellsOf 9 = 1 := by kernel_rfl
theorem cells65 : Tryd.prog.cellsOf 65 = 6 := by kernel_rfl
theorem all_mem {H : Type} {P : Program} {e : TypeId} : ∀ {l : List (DataW H)} {d : DataW H} {n : Nat}, d ∈ l → n ∈ d.weights P e → n ∈ DataW.weightsAll P e l
  | x :: l, d, n, hd, hn => by
    rw [DataW.weightsAll]
    rcases List.mem_cons.1 hd with rfl | hd
    · exact List.mem_append_left _ hn
    · exact List.mem_append_right _ (all_mem hd hn)
theorem list4 {α : Type} {l : List α} (h : l.length = 4) : ∃ a b c d, l = [a, b, c, d] := by
  match l, h with
  | [a, b, c, d], _ => exact ⟨a, b, c, d, rfl⟩
theorem list3 {α : Type} {l : List α} (h : l.length = 3) : ∃ a b c, l = [a, b, c] := by
  match l, h with
  | [a, b, c], _ => exact ⟨a, b, c, rfl⟩
theorem list6 {α : Type} {l : List α} (h : l.length = 6) : ∃ a b c d e f, l = [a, b, c, d, e, f] := by
  match l, h with
  | [a, b, c, d, e, f], _ => exact ⟨a, b, c, d, e, f, rfl⟩
section
variable {H : Type} {enc : TypeId × Value → H} {W : World} {base : Nat} {spare : Nat → Bool} {held : Bool}
/-- A value that lies in cells. -/
theorem trod_value {fuel : Nat} {cs : List Value} {x : DataW H × List MemPlace} (h : DataW.trod enc Tryd.prog W base spare held fuel 23 cs = some x) :
    ∃ z : S23, cs = [.int .u8 z.f0, .int .i64 z.f1, .int .i64 z.f2, .string z.f3] ∧ FitV z ∧ z.f3.size ∈ x.1.weights Tryd.prog 23 := by
  obtain ⟨xs, n, rfl, rfl, hlen, hxl, hf⟩ := DataW.trod_struct Tryd.underlying23 h
  rw [cells23] at hlen
  obtain ⟨c0, c1, c2, c3, rfl⟩ := list4 hlen
  obtain ⟨y0, y1, y2, y3, rfl⟩ := list4 hxl
  have t0 : DataW.trod enc Tryd.prog W base spare held n 5 ((List.drop 0 [c0, c1, c2, c3]).take (Tryd.prog.cellsOf 5)) = some y0 := hf 0 _ rfl
  rw [cells5] at t0
  replace t0 : DataW.trod enc Tryd.prog W base spare held n 5 [c0] = some y0 := t0
  have t1 : DataW.trod enc Tryd.prog W base spare held n 2 ((List.drop 1 [c0, c1, c2, c3]).take (Tryd.prog.cellsOf 2)) = some y1 := hf 1 _ rfl
  rw [cells2] at t1
  replace t1 : DataW.trod enc Tryd.prog W base spare held n 2 [c1] = some y1 := t1
  have t2 : DataW.trod enc Tryd.prog W base spare held n 2 ((List.drop 2 [c0, c1, c2, c3]).take (Tryd.prog.cellsOf 2)) = some y2 := hf 2 _ rfl
  rw [cells2] at t2
  replace t2 : DataW.trod enc Tryd.prog W base spare held n 2 [c2] = some y2 := t2
  have t3 : DataW.trod enc Tryd.prog W base spare held n 9 ((List.drop 3 [c0, c1, c2, c3]).take (Tryd.prog.cellsOf 9)) = some y3 := hf 3 _ rfl
  rw [cells9] at t3
  replace t3 : DataW.trod enc Tryd.prog W base spare held n 9 [c3] = some y3 := t3
  obtain ⟨z0, e0, _, w0⟩ := DataW.trod_int Tryd.underlying5 t0
  obtain ⟨z1, e1, _, w1⟩ := DataW.trod_int Tryd.underlying2 t1
  obtain ⟨z2, e2, _, w2⟩ := DataW.trod_int Tryd.underlying2 t2
  obtain ⟨z3, e3, k3, w3⟩ := DataW.trod_string Tryd.underlying9 t3
  simp at e0 e1 e2 e3
  subst e0 e1 e2 e3
  refine ⟨⟨z0, z1, z2, z3⟩, rfl, ⟨w0, w1, w2, w3⟩, ?_⟩
  have k3' : y3.1 = .lit (.string z3.data.toList) := by rw [k3]
  simp only [List.map_cons, List.map_nil, DataW.weights, Tryd.underlying23, DataW.weightsEach, k3']
  simp
/-- A slice of values that came in, and how long its texts are. -/
theorem open_valuesS {r : Reach} {b0 : Nat} {v : Value} {d : DataW H} {ps : List MemPlace} (hv : Value.okWide Tryd.prog W r b0 29 v) (h : DataW.Trod enc Tryd.prog W base spare held 29 v d ps) :
    ∃ (A : Option Addr) (cap : Nat) (xs : List S23), v = .slice A xs.length cap ∧ Kd.C k23 W A xs.length xs ∧ xs.length ≤ cap ∧ (∀ x ∈ xs, FitV x) ∧ ∀ x ∈ xs, x.f3.size ∈ d.weights Tryd.prog 29 := by
  obtain ⟨a, len, cap, rfl⟩ := okWide_slice Tryd.underlying29 hv
  obtain ⟨fuel, hf⟩ := h
  rcases open_slice Tryd.underlying29 hf with ⟨hcs, _⟩ | ⟨x, l, c, m, n, D, Pl, hcs, _, hl, hm, hmm, hx, hi⟩
  · simp [Value.cells] at hcs
    obtain ⟨rfl, rfl, rfl⟩ := hcs
    exact ⟨none, 0, [], rfl, Kd.C_nil _ _, Nat.le_refl _, (fun x hx => by cases hx), (fun x hx => by cases hx)⟩
  · simp [Value.cells] at hcs
    obtain ⟨rfl, rfl, rfl⟩ := hcs
    have hlm : len ≤ m := by rw [hmm]; split <;> omega
    rw [cells23] at hi hx
    have H1 : ∀ i, i < len → ∃ y : S23, (∀ j u, (show List Value from [.int .u8 y.f0, .int .i64 y.f1, .int .i64 y.f2, .string y.f3])[j]? = some u → W.cell? (x.add (i * 4 + j)) = some u) ∧ FitV y ∧ y.f3.size ∈ (D i).weights Tryd.prog 23 := by
      intro i hil
      obtain ⟨cs', hc, ht⟩ := hi i (by omega)
      obtain ⟨z, rfl, hz, hw⟩ := trod_value ht
      obtain ⟨_, hcl, hat⟩ := World.cells?_some hc
      refine ⟨z, fun j u hu => ?_, hz, hw⟩
      have hj : j < 4 := (List.getElem?_eq_some_iff.1 hu).1
      rw [← Go.Deep.add_add, hat j hj]
      exact hu
    obtain ⟨xs, hxl, hxs⟩ := list_of len H1
    subst hxl
    refine ⟨some x, cap, xs, rfl, ⟨rfl, by unfold maxLen at hm; omega, fun _ => ⟨x, rfl, fun j p hp => ⟨_, rfl, k23_mk W p, (hxs j p hp).1⟩⟩⟩, hl, fun y hy => ?_, fun y hy => ?_⟩
    · obtain ⟨j, hj, rfl⟩ := List.getElem_of_mem hy
      exact (hxs j _ (List.getElem?_eq_getElem hj)).2.1
    · obtain ⟨j, hj, rfl⟩ := List.getElem_of_mem hy
      have hw := (hxs j _ (List.getElem?_eq_getElem hj)).2.2
      have hd : d = .slice ((List.range xs.length).map D) ((List.range (m - xs.length)).map fun j => D (xs.length + j)) := congrArg (·.1) hx
      rw [hd]
      simp only [DataW.weights, Tryd.underlying29]
      exact List.mem_cons_of_mem _ (List.mem_append_left _ (all_mem (List.mem_map.2 ⟨j, List.mem_range.2 hj, rfl⟩) hw))
theorem sized_values {ts : List TypeId} {ds : List (DataW H)} (h : (DataW.weightsEach Tryd.prog ts ds).all (· ≤ reachBytes) = true) {j : Nat} {d : DataW H} (ht : ts[j]? = some 29) (hd : ds[j]? = some d) {n : Nat} (hn : n ∈ d.weights Tryd.prog 29) : n ≤ 140737488355328 := by
  have := List.all_eq_true.1 h _ (DataW.weights_mem_each ht hd n hn)
  have h2 : n ≤ reachBytes := by simpa using this
  exact Nat.le_trans h2 (by decide)
/-- A slice of columns that came in. -/
theorem open_cols {r : Reach} {b0 : Nat} {v : Value} {d : DataW H} {ps : List MemPlace} (hv : Value.okWide Tryd.prog W r b0 30 v) (h : DataW.Trod enc Tryd.prog W base spare held 30 v d ps) :
    ∃ (A : Option Addr) (cap : Nat) (xs : List S65), v = .slice A xs.length cap ∧ Kd.C k65 W A xs.length xs ∧ xs.length ≤ cap := by
  obtain ⟨a, len, cap, rfl⟩ := okWide_slice Tryd.underlying30 hv
  obtain ⟨fuel, hf⟩ := h
  rcases open_slice Tryd.underlying30 hf with ⟨hcs, _⟩ | ⟨x, l, c, m, n, D, Pl, hcs, _, hl, hm, hmm, hx, hi⟩
  · simp [Value.cells] at hcs
    obtain ⟨rfl, rfl, rfl⟩ := hcs
    exact ⟨none, 0, [], rfl, Kd.C_nil _ _, Nat.le_refl _⟩
  · simp [Value.cells] at hcs
    obtain ⟨rfl, rfl, rfl⟩ := hcs
    have hlm : len ≤ m := by rw [hmm]; split <;> omega
    rw [cells65] at hi hx
    have H1 : ∀ i, i < len → ∃ y : S65, (∀ j u, (show List Value from [.string y.f0, .int .u8 y.f1, .int .u8 y.f2.f0, .int .i64 y.f2.f1, .int .i64 y.f2.f2, .string y.f2.f3])[j]? = some u → W.cell? (x.add (i * 6 + j)) = some u) := by
      intro i hil
      obtain ⟨cs', hc, ht⟩ := hi i (by omega)
      obtain ⟨ys, n', rfl, _, hlen, hyl, hg⟩ := DataW.trod_struct Tryd.underlying65 ht
      rw [cells65] at hlen
      obtain ⟨_, hcl, hat⟩ := World.cells?_some hc
      obtain ⟨c0, c1, c2, c3, c4, c5, rfl⟩ := list6 hlen
      obtain ⟨y0, y1, y2, rfl⟩ := list3 hyl
      have t0 : DataW.trod enc Tryd.prog W base spare held n' 9 ((List.drop 0 [c0, c1, c2, c3, c4, c5]).take (Tryd.prog.cellsOf 9)) = some y0 := hg 0 _ rfl
      rw [cells9] at t0
      replace t0 : DataW.trod enc Tryd.prog W base spare held n' 9 [c0] = some y0 := t0
      have t1 : DataW.trod enc Tryd.prog W base spare held n' 5 ((List.drop 1 [c0, c1, c2, c3, c4, c5]).take (Tryd.prog.cellsOf 5)) = some y1 := hg 1 _ rfl
      rw [cells5] at t1
      replace t1 : DataW.trod enc Tryd.prog W base spare held n' 5 [c1] = some y1 := t1
      have t2 : DataW.trod enc Tryd.prog W base spare held n' 23 ((List.drop 2 [c0, c1, c2, c3, c4, c5]).take (Tryd.prog.cellsOf 23)) = some y2 := hg 2 _ rfl
      rw [cells23] at t2
      replace t2 : DataW.trod enc Tryd.prog W base spare held n' 23 [c2, c3, c4, c5] = some y2 := t2
      obtain ⟨z0, e0, _, w0⟩ := DataW.trod_string Tryd.underlying9 t0
      obtain ⟨z1, e1, _, w1⟩ := DataW.trod_int Tryd.underlying5 t1
      obtain ⟨z2, e2, _, _⟩ := trod_value t2
      simp at e0 e1 e2
      obtain ⟨rfl, rfl, rfl, rfl⟩ := e2
      subst e0 e1
      refine ⟨⟨z0, z1, z2⟩, fun j u hu => ?_⟩
      have hj : j < 6 := (List.getElem?_eq_some_iff.1 hu).1
      rw [← Go.Deep.add_add, hat j hj]
      exact hu
    obtain ⟨xs, hxl, hxs⟩ := list_of len H1
    subst hxl
    exact ⟨some x, cap, xs, rfl, ⟨rfl, by unfold maxLen at hm; omega, fun _ => ⟨x, rfl, fun j p hp => ⟨_, rfl, k65_mk W p, hxs j p hp⟩⟩⟩, hl⟩
end
end Go.Proofs.YtddmllocjocipaaDoor.D
