/- How a case that came in is read: its tables, names, pairs and grants as lists, and how long they may be. Conditions: none. -/
import Derived.Test.YteklimdjlihloaaSp7
import Derived.ProofKit
import Derived.Deep.Slices
import Derived.Deep.Fields
import Derived.Deep.OwnShut
import Derived.ChangeSame
import Derived.OpenShut
import Derived.SizedLaws
namespace Go.Proofs.Yteklimdjlihloaa.G
set_option maxRecDepth 100000
set_option linter.unusedVariables false
set_option linter.unusedSectionVars false
open Go.RowKit Go.Proofs.YteklimdjlihloaaW.PrintWords Go.Proofs.YteklimdjlihloaaW.PrintLast Go.Proofs.YteklimdjlihloaaW.PrintMore
open Go.ChangeShapes Go.WideShapes Go.Deep
theorem cs4 : Try.prog.cellsOf 4 = 1 := by kernel_rfl
theorem cs3 : Try.prog.cellsOf 3 = 1 := by kernel_rfl
theorem cs5 : Try.prog.cellsOf 5 = 1 := by kernel_rfl
theorem cs9 : Try.prog.cellsOf 9 = 1 := by kernel_rfl
theorem cs22 : Try.prog.cellsOf 22 = 1 := by kernel_rfl
theorem cs23 : Try.prog.cellsOf 23 = 1 := by kernel_rfl
theorem cs26 : Try.prog.cellsOf 26 = 1 := by kernel_rfl
theorem cs27 : Try.prog.cellsOf 27 = 1 := by kernel_rfl
theorem cs30 : Try.prog.cellsOf 30 = 1 := by kernel_rfl
theorem cs67 : Try.prog.cellsOf 67 = 1 := by kernel_rfl
theorem cs25 : Try.prog.cellsOf 25 = 3 := by kernel_rfl
theorem cs29 : Try.prog.cellsOf 29 = 2 := by kernel_rfl
theorem cs32 : Try.prog.cellsOf 32 = 6 := by kernel_rfl
theorem cs43 : Try.prog.cellsOf 43 = 5 := by kernel_rfl
theorem cs66 : Try.prog.cellsOf 66 = 2 := by kernel_rfl
theorem cs69 : Try.prog.cellsOf 69 = 3 := by kernel_rfl
theorem cs72 : Try.prog.cellsOf 72 = 4 := by kernel_rfl
theorem cs87 : Try.prog.cellsOf 87 = 6 := by kernel_rfl
theorem cs2 : Try.prog.cellsOf 2 = 1 := by kernel_rfl
theorem cs85 : Try.prog.cellsOf 85 = 4 := by kernel_rfl
theorem bo87 : Try.prog.bytesOf 87 = 64 := by kernel_rfl
theorem bo72 : Try.prog.bytesOf 72 = 64 := by kernel_rfl
theorem bo9 : Try.prog.bytesOf 9 = 16 := by kernel_rfl
theorem bo66 : Try.prog.bytesOf 66 = 32 := by kernel_rfl
theorem bo43 : Try.prog.bytesOf 43 = 56 := by kernel_rfl
theorem ls2 {α : Type} {l : List α} (h : l.length = 2) : ∃ a b, l = [a, b] := by
  match l, h with
  | [a, b], _ => exact ⟨a, b, rfl⟩
theorem ls3 {α : Type} {l : List α} (h : l.length = 3) : ∃ a b c, l = [a, b, c] := by
  match l, h with
  | [a, b, c], _ => exact ⟨a, b, c, rfl⟩
theorem ls4 {α : Type} {l : List α} (h : l.length = 4) : ∃ a b c d, l = [a, b, c, d] := by
  match l, h with
  | [a, b, c, d], _ => exact ⟨a, b, c, d, rfl⟩
theorem ls5 {α : Type} {l : List α} (h : l.length = 5) : ∃ a b c d e, l = [a, b, c, d, e] := by
  match l, h with
  | [a, b, c, d, e], _ => exact ⟨a, b, c, d, e, rfl⟩
theorem ls6 {α : Type} {l : List α} (h : l.length = 6) : ∃ a b c d e f, l = [a, b, c, d, e, f] := by
  match l, h with
  | [a, b, c, d, e, f], _ => exact ⟨a, b, c, d, e, f, rfl⟩
/-- Of each of n there is one: then a list of them. -/
theorem list_of {α : Type} {Q : Nat → α → Prop} : ∀ (n : Nat), (∀ i, i < n → ∃ x, Q i x) → ∃ xs : List α, xs.length = n ∧ ∀ i x, xs[i]? = some x → Q i x
  | 0, _ => ⟨[], rfl, fun i x h => by simp at h⟩
  | n + 1, h => by
    obtain ⟨xs, hl, hx⟩ := list_of n (fun i hi => h i (by omega))
    obtain ⟨y, hy⟩ := h n (by omega)
    refine ⟨xs ++ [y], by simp [hl], fun i x hi => ?_⟩
    by_cases e : i < n
    · rw [List.getElem?_append_left (by omega)] at hi; exact hx i x hi
    · rw [List.getElem?_append_right (by omega)] at hi
      have : i - xs.length = 0 := by
        have := (List.getElem?_eq_some_iff.1 hi).1
        simp at this; omega
      rw [this] at hi
      simp at hi
      subst hi
      rwa [show i = n by omega]
section
variable {H : Type} {enc : TypeId × Value → H} {W : World} {base : Nat} {spare : Nat → Bool} {held : Bool}
theorem all_mem {P : Program} {e : TypeId} : ∀ {l : List (DataW H)} {d : DataW H} {n : Nat}, d ∈ l → n ∈ d.weights P e → n ∈ DataW.weightsAll P e l
  | x :: l, d, n, hd, hn => by
    rw [DataW.weightsAll]
    rcases List.mem_cons.1 hd with rfl | hd
    · exact List.mem_append_left _ hn
    · exact List.mem_append_right _ (all_mem hd hn)
theorem agg_mem {P : Program} {t : TypeId} {fs : Array Field} (ht : P.underlying t = some (.struct fs)) {parts : List (DataW H)} {j : Nat} {f : Field} {d : DataW H} {n : Nat} (hf : fs[j]? = some f) (hd : parts[j]? = some d) (hn : n ∈ d.weights P f.type) : n ∈ (DataW.agg parts).weights P t := by
  simp only [DataW.weights, ht]
  refine DataW.weights_mem_each (j := j) ?_ hd n hn
  rw [List.getElem?_map, Array.getElem?_toList, hf]
  rfl
/-- A slice that came in, each of whose elements reads as some x. -/
theorem open_list {α : Type} (K : Kd α) (Q : α → DataW H → Prop) {t e : TypeId} (ht : Try.prog.underlying t = some (.slice e)) (hC : Try.prog.cellsOf e = K.sz)
    (el : ∀ n cs x, DataW.trod enc Try.prog W base spare held n e cs = some x → ∃ y : α, K.K W y cs ∧ Q y x.1) {fuel : Nat} {v : Value} {x : DataW H × List MemPlace} (h : DataW.trod enc Try.prog W base spare held fuel t [v] = some x) :
    ∃ (A : Option Addr) (cap : Nat) (xs : List α), v = .slice A xs.length cap ∧ xs.length ≤ cap ∧ Kd.C K W A xs.length xs ∧ (∀ y ∈ xs, ∃ d, Q y d ∧ ∀ n ∈ d.weights Try.prog e, n ∈ x.1.weights Try.prog t) ∧ (xs = [] ∨ ∃ m, xs.length ≤ m ∧ m * Try.prog.bytesOf e ∈ x.1.weights Try.prog t) := by
  rcases open_slice ht h with ⟨hcs, hx⟩ | ⟨a, l, c, m, n, D, Pl, hcs, _, hl, hm, hmm, hx, hi⟩
  · obtain rfl := List.cons.inj hcs |>.1
    exact ⟨none, 0, [], rfl, Nat.le_refl _, Kd.C_nil _ _, (fun y hy => by cases hy), Or.inl rfl⟩
  · obtain rfl := List.cons.inj hcs |>.1
    have hlm : l ≤ m := by rw [hmm]; split <;> omega
    rw [hC] at hi
    have hw : x.1.weights Try.prog t = (((List.range l).map D).length + ((List.range (m - l)).map fun j => D (l + j)).length) * Try.prog.bytesOf e :: (DataW.weightsAll Try.prog e ((List.range l).map D) ++ DataW.weightsAll Try.prog e ((List.range (m - l)).map fun j => D (l + j))) := by
      rw [hx]
      simp only [DataW.weights, ht]
    have H1 : ∀ i, i < l → ∃ y : α, (∃ cs, K.K W y cs ∧ ∀ j u, cs[j]? = some u → W.cell? (a.add (i * K.sz + j)) = some u) ∧ ∃ d, Q y d ∧ ∀ n ∈ d.weights Try.prog e, n ∈ x.1.weights Try.prog t := by
      intro i hil
      obtain ⟨cs', hc, ht'⟩ := hi i (by omega)
      obtain ⟨y, hK, hq⟩ := el n cs' _ ht'
      obtain ⟨_, hcl, hat⟩ := World.cells?_some hc
      refine ⟨y, ⟨cs', hK, fun j u hu => ?_⟩, D i, hq, fun n hn => ?_⟩
      · have hj : j < K.sz := by rw [← K.K_len hK]; exact (List.getElem?_eq_some_iff.1 hu).1
        rw [← Go.Deep.add_add, hat j hj]
        exact hu
      · rw [hw]
        exact List.mem_cons_of_mem _ (List.mem_append_left _ (all_mem (List.mem_map.2 ⟨i, List.mem_range.2 hil, rfl⟩) hn))
    obtain ⟨xs, hxl, hxs⟩ := list_of l H1
    subst hxl
    refine ⟨some a, c, xs, rfl, hl, ⟨rfl, by unfold maxLen at hm; omega, fun _ => ⟨a, rfl, fun j p hp => ?_⟩⟩, fun y hy => ?_, Or.inr ⟨m, hlm, ?_⟩⟩
    · obtain ⟨⟨cs, hK, hcs⟩, _⟩ := hxs j p hp
      exact ⟨cs, K.K_len hK, hK, hcs⟩
    · obtain ⟨j, hj, rfl⟩ := List.getElem_of_mem hy
      exact (hxs j _ (List.getElem?_eq_getElem hj)).2
    · rw [hw]
      rw [List.length_map, List.length_map, List.length_range, List.length_range, show xs.length + (m - xs.length) = m by omega]
      exact List.mem_cons_self
theorem el_string {n : Nat} {cs : List Value} {x : DataW H × List MemPlace} (h : DataW.trod enc Try.prog W base spare held n 9 cs = some x) : ∃ y : ByteArray, Kd.string.K W y cs ∧ True := by
  obtain ⟨z, e, _, w⟩ := DataW.trod_string Try.underlying9 h
  subst e
  exact ⟨z, rfl, trivial⟩
theorem el_grant {n : Nat} {cs : List Value} {x : DataW H × List MemPlace} (h : DataW.trod enc Try.prog W base spare held n 43 cs = some x) : ∃ y : S43, k43.K W y cs ∧ (cs = [.string y.f0, .string y.f1, .string y.f2, .int .u8 y.f3, .bool y.f4] ∧ 0 ≤ y.f3 ∧ y.f3 < 256 ∧ (y.f0.size ≤ maxLen ∧ y.f1.size ≤ maxLen ∧ y.f2.size ≤ maxLen)) := by
  obtain ⟨xs, m, rfl, rfl, hlen, hxl, hf⟩ := DataW.trod_struct Try.underlying43 h
  rw [cs43] at hlen
  obtain ⟨c0, c1, c2, c3, c4, rfl⟩ := ls5 hlen
  obtain ⟨y0, y1, y2, y3, y4, rfl⟩ := ls5 hxl
  have t0 : DataW.trod enc Try.prog W base spare held m 9 ((List.drop 0 [c0, c1, c2, c3, c4]).take (Try.prog.cellsOf 9)) = some y0 := hf 0 _ rfl
  have t1 : DataW.trod enc Try.prog W base spare held m 9 ((List.drop 1 [c0, c1, c2, c3, c4]).take (Try.prog.cellsOf 9)) = some y1 := hf 1 _ rfl
  have t2 : DataW.trod enc Try.prog W base spare held m 9 ((List.drop 2 [c0, c1, c2, c3, c4]).take (Try.prog.cellsOf 9)) = some y2 := hf 2 _ rfl
  have t3 : DataW.trod enc Try.prog W base spare held m 5 ((List.drop 3 [c0, c1, c2, c3, c4]).take (Try.prog.cellsOf 5)) = some y3 := hf 3 _ rfl
  have t4 : DataW.trod enc Try.prog W base spare held m 4 ((List.drop 4 [c0, c1, c2, c3, c4]).take (Try.prog.cellsOf 4)) = some y4 := hf 4 _ rfl
  rw [cs9] at t0 t1 t2
  rw [cs5] at t3
  rw [cs4] at t4
  obtain ⟨z0, e0, _, w0⟩ := DataW.trod_string Try.underlying9 t0
  obtain ⟨z1, e1, _, w1⟩ := DataW.trod_string Try.underlying9 t1
  obtain ⟨z2, e2, _, w2⟩ := DataW.trod_string Try.underlying9 t2
  obtain ⟨z3, e3, _, w3⟩ := DataW.trod_int Try.underlying5 t3
  obtain ⟨z4, e4, _⟩ := DataW.trod_bool Try.underlying4 t4
  simp at e0 e1 e2 e3 e4
  subst e0 e1 e2 e3 e4
  have hb := bounds_u8 w3
  exact ⟨⟨z0, z1, z2, z3, z4⟩, k43_mk W ⟨z0, z1, z2, z3, z4⟩, rfl, hb.1, by show z3 < 256; omega, w0, w1, w2⟩
theorem el_pair {n : Nat} {cs : List Value} {x : DataW H × List MemPlace} (h : DataW.trod enc Try.prog W base spare held n 66 cs = some x) : ∃ y : S66, k66.K W y cs ∧ True := by
  obtain ⟨xs, m, rfl, rfl, hlen, hxl, hf⟩ := DataW.trod_array Try.underlying66 h
  rw [cs66] at hlen
  obtain ⟨c0, c1, rfl⟩ := ls2 hlen
  obtain ⟨y0, y1, rfl⟩ := ls2 hxl
  have t0 : DataW.trod enc Try.prog W base spare held m 9 ((List.drop (0 * Try.prog.cellsOf 9) [c0, c1]).take (Try.prog.cellsOf 9)) = some y0 := hf 0 (by decide)
  have t1 : DataW.trod enc Try.prog W base spare held m 9 ((List.drop (1 * Try.prog.cellsOf 9) [c0, c1]).take (Try.prog.cellsOf 9)) = some y1 := hf 1 (by decide)
  rw [cs9] at t0 t1
  obtain ⟨z0, e0, _, w0⟩ := DataW.trod_string Try.underlying9 t0
  obtain ⟨z1, e1, _, w1⟩ := DataW.trod_string Try.underlying9 t1
  simp at e0 e1
  subst e0 e1
  exact ⟨⟨z0, z1⟩, k66_mk W ⟨z0, z1⟩, trivial⟩
theorem el_raw {n : Nat} {cs : List Value} {x : DataW H × List MemPlace} (h : DataW.trod enc Try.prog W base spare held n 87 cs = some x) : ∃ y : Raw, kRaw.K W y cs ∧ True := by
  obtain ⟨xs, m, rfl, rfl, hlen, hxl, hf⟩ := DataW.trod_struct Try.underlying87 h
  rw [cs87] at hlen
  obtain ⟨c0, c1, c2, c3, c4, c5, rfl⟩ := ls6 hlen
  obtain ⟨y0, y1, y2, rfl⟩ := ls3 hxl
  have t0 : DataW.trod enc Try.prog W base spare held m 9 ((List.drop 0 [c0, c1, c2, c3, c4, c5]).take (Try.prog.cellsOf 9)) = some y0 := hf 0 _ rfl
  have t1 : DataW.trod enc Try.prog W base spare held m 5 ((List.drop 1 [c0, c1, c2, c3, c4, c5]).take (Try.prog.cellsOf 5)) = some y1 := hf 1 _ rfl
  have t2 : DataW.trod enc Try.prog W base spare held m 85 ((List.drop 2 [c0, c1, c2, c3, c4, c5]).take (Try.prog.cellsOf 85)) = some y2 := hf 2 _ rfl
  rw [cs9] at t0
  rw [cs5] at t1
  rw [cs85] at t2
  replace t2 : DataW.trod enc Try.prog W base spare held m 85 [c2, c3, c4, c5] = some y2 := t2
  obtain ⟨xs2, m2, rfl, rfl, hlen2, hxl2, hf2⟩ := DataW.trod_struct Try.underlying85 t2
  obtain ⟨w0, w1, w2, w3, rfl⟩ := ls4 hxl2
  have s0 : DataW.trod enc Try.prog W base spare held m2 5 ((List.drop 0 [c2, c3, c4, c5]).take (Try.prog.cellsOf 5)) = some w0 := hf2 0 _ rfl
  have s1 : DataW.trod enc Try.prog W base spare held m2 2 ((List.drop 1 [c2, c3, c4, c5]).take (Try.prog.cellsOf 2)) = some w1 := hf2 1 _ rfl
  have s2 : DataW.trod enc Try.prog W base spare held m2 2 ((List.drop 2 [c2, c3, c4, c5]).take (Try.prog.cellsOf 2)) = some w2 := hf2 2 _ rfl
  have s3 : DataW.trod enc Try.prog W base spare held m2 9 ((List.drop 3 [c2, c3, c4, c5]).take (Try.prog.cellsOf 9)) = some w3 := hf2 3 _ rfl
  rw [cs5] at s0
  rw [cs2] at s1 s2
  rw [cs9] at s3
  obtain ⟨z0, e0, _, _⟩ := DataW.trod_string Try.underlying9 t0
  obtain ⟨z1, e1, _, _⟩ := DataW.trod_int Try.underlying5 t1
  obtain ⟨u0, f0, _, _⟩ := DataW.trod_int Try.underlying5 s0
  obtain ⟨u1, f1, _, _⟩ := DataW.trod_int Try.underlying2 s1
  obtain ⟨u2, f2, _, _⟩ := DataW.trod_int Try.underlying2 s2
  obtain ⟨u3, f3, _, _⟩ := DataW.trod_string Try.underlying9 s3
  simp at e0 e1 f0 f1 f2 f3
  subst e0 e1 f0 f1 f2 f3
  exact ⟨⟨_, rfl, by simp [Value.oneCell']⟩, rfl, trivial⟩
theorem el_table {n : Nat} {cs : List Value} {x : DataW H × List MemPlace} (h : DataW.trod enc Try.prog W base spare held n 72 cs = some x) : ∃ y : S72, k72.K W y cs ∧ ((∀ n ∈ x.1.weights Try.prog 72, n ≤ reachBytes) → ColR W (tokV y.f1.f1)) := by
  obtain ⟨xs, m, rfl, rfl, hlen, hxl, hf⟩ := DataW.trod_struct Try.underlying72 h
  rw [cs72] at hlen
  obtain ⟨c0, c1, c2, c3, rfl⟩ := ls4 hlen
  obtain ⟨y0, y1, rfl⟩ := ls2 hxl
  have t0 : DataW.trod enc Try.prog W base spare held m 3 ((List.drop 0 [c0, c1, c2, c3]).take (Try.prog.cellsOf 3)) = some y0 := hf 0 _ rfl
  have t1 : DataW.trod enc Try.prog W base spare held m 69 ((List.drop 1 [c0, c1, c2, c3]).take (Try.prog.cellsOf 69)) = some y1 := hf 1 _ rfl
  rw [cs3] at t0
  rw [cs69] at t1
  replace t1 : DataW.trod enc Try.prog W base spare held m 69 [c1, c2, c3] = some y1 := t1
  obtain ⟨xs2, m2, rfl, rfl, hlen2, hxl2, hf2⟩ := DataW.trod_struct Try.underlying69 t1
  obtain ⟨w0, w1, w2, rfl⟩ := ls3 hxl2
  have s0 : DataW.trod enc Try.prog W base spare held m2 9 ((List.drop 0 [c1, c2, c3]).take (Try.prog.cellsOf 9)) = some w0 := hf2 0 _ rfl
  have s1 : DataW.trod enc Try.prog W base spare held m2 67 ((List.drop 1 [c1, c2, c3]).take (Try.prog.cellsOf 67)) = some w1 := hf2 1 _ rfl
  have s2 : DataW.trod enc Try.prog W base spare held m2 9 ((List.drop 2 [c1, c2, c3]).take (Try.prog.cellsOf 9)) = some w2 := hf2 2 _ rfl
  rw [cs9] at s0 s2
  rw [cs67] at s1
  replace s1 : DataW.trod enc Try.prog W base spare held m2 67 [c2] = some w1 := s1
  obtain ⟨z0, e0, _, _⟩ := DataW.trod_int Try.underlying3 t0
  obtain ⟨u0, f0, _, _⟩ := DataW.trod_string Try.underlying9 s0
  obtain ⟨u2, f2, _, _⟩ := DataW.trod_string Try.underlying9 s2
  obtain ⟨A, cap, l, rfl, hc, hr, _, hsz⟩ := open_list kRaw (fun _ _ => True) Try.underlying67 cs87 (fun _ _ _ h => el_raw h) s1
  obtain ⟨t, ht⟩ := tok_all A l.length cap
  simp at e0 f0 f2
  subst e0 f0 f2
  refine ⟨⟨z0, ⟨u0, t, u2⟩⟩, ?_, ?_⟩
  · rw [← ht]
    exact k72_mk W ⟨z0, ⟨u0, t, u2⟩⟩
  · intro hle
    refine ⟨A, cap, l, ht, hc, hr, ?_⟩
    rcases hsz with rfl | ⟨k, hk, hm⟩
    · simp
    · have := hle _ (agg_mem Try.underlying72 (j := 1) rfl rfl (agg_mem Try.underlying69 (j := 1) rfl rfl hm))
      rw [bo87] at this
      have h47 : reachBytes < 2 ^ 47 := reachBytes_lt
      omega
/-- A case that came in. -/
theorem open_case {r : Reach} {b0 : Nat} {v : Value} {d : DataW H} {ps : List MemPlace} (hv : Value.okWide Try.prog W r b0 32 v) (h : DataW.Trod enc Try.prog W base spare held 32 v d ps) (hw : ∀ n ∈ d.weights Try.prog 32, n ≤ reachBytes) :
    ∃ (a0 a2 a3 a4 : Int) (A1 A5 : Option Addr) (c1 c5 : Nat) (l5 : List S43) (X0 : CtxS), v = .agg #[.int .i64 a0, .slice A1 X0.C.length c1, tokV a2, tokV a3, tokV a4, .slice A5 l5.length c5] ∧ a3 = X0.tN ∧ a4 = X0.tP ∧
      Kd.C k72 W A1 X0.C.length X0.C ∧ X0.C.length ≤ c1 ∧ Kd.C k43 W A5 l5.length l5 ∧ l5.length ≤ c5 ∧ Byte l5 ∧ Fits l5 ∧ @SR ⟨X0⟩ W := by
  obtain ⟨cs, rfl, hsz⟩ := okWide_struct Try.underlying32 hv
  obtain ⟨fuel, hf⟩ := h
  obtain ⟨xs, n, rfl, hd, hlen, hxl, hg⟩ := DataW.trod_struct Try.underlying32 hf
  obtain ⟨rfl, -⟩ := Prod.mk.inj hd
  have hlen' : cs.toList.length = 6 := by rw [Array.length_toList, hsz, cs32]
  obtain ⟨c0, c1, c2, c3, c4, c5, hcs⟩ := ls6 hlen'
  obtain rfl : cs = #[c0, c1, c2, c3, c4, c5] := by rw [← hcs]
  obtain ⟨y0, y1, y2, rfl⟩ := ls3 hxl
  have t0 : DataW.trod enc Try.prog W base spare held n 25 ((List.drop 0 [c0, c1, c2, c3, c4, c5]).take (Try.prog.cellsOf 25)) = some y0 := hg 0 _ rfl
  have t1 : DataW.trod enc Try.prog W base spare held n 29 ((List.drop 3 [c0, c1, c2, c3, c4, c5]).take (Try.prog.cellsOf 29)) = some y1 := hg 1 _ rfl
  have t2 : DataW.trod enc Try.prog W base spare held n 30 ((List.drop 5 [c0, c1, c2, c3, c4, c5]).take (Try.prog.cellsOf 30)) = some y2 := hg 2 _ rfl
  rw [cs25] at t0
  rw [cs29] at t1
  rw [cs30] at t2
  replace t0 : DataW.trod enc Try.prog W base spare held n 25 [c0, c1, c2] = some y0 := t0
  replace t1 : DataW.trod enc Try.prog W base spare held n 29 [c3, c4] = some y1 := t1
  replace t2 : DataW.trod enc Try.prog W base spare held n 30 [c5] = some y2 := t2
  obtain ⟨xs0, n0, rfl, rfl, _, hxl0, hg0⟩ := DataW.trod_struct Try.underlying25 t0
  obtain ⟨z0, z1, z2, rfl⟩ := ls3 hxl0
  obtain ⟨xs1, n1, hn1, rfl, _, hxl1, hg1⟩ := DataW.trod_struct Try.underlying29 t1
  obtain ⟨q0, q1, rfl⟩ := ls2 hxl1
  have s0 : DataW.trod enc Try.prog W base spare held n0 3 ((List.drop 0 [c0, c1, c2]).take (Try.prog.cellsOf 3)) = some z0 := hg0 0 _ rfl
  have s1 : DataW.trod enc Try.prog W base spare held n0 22 ((List.drop 1 [c0, c1, c2]).take (Try.prog.cellsOf 22)) = some z1 := hg0 1 _ rfl
  have s2 : DataW.trod enc Try.prog W base spare held n0 23 ((List.drop 2 [c0, c1, c2]).take (Try.prog.cellsOf 23)) = some z2 := hg0 2 _ rfl
  have s3 : DataW.trod enc Try.prog W base spare held n1 26 ((List.drop 0 [c3, c4]).take (Try.prog.cellsOf 26)) = some q0 := hg1 0 _ rfl
  have s4 : DataW.trod enc Try.prog W base spare held n1 27 ((List.drop 1 [c3, c4]).take (Try.prog.cellsOf 27)) = some q1 := hg1 1 _ rfl
  rw [cs3] at s0
  rw [cs22] at s1
  rw [cs23] at s2
  rw [cs26] at s3
  rw [cs27] at s4
  replace s1 : DataW.trod enc Try.prog W base spare held n0 22 [c1] = some z1 := s1
  replace s2 : DataW.trod enc Try.prog W base spare held n0 23 [c2] = some z2 := s2
  replace s3 : DataW.trod enc Try.prog W base spare held n1 26 [c3] = some q0 := s3
  replace s4 : DataW.trod enc Try.prog W base spare held n1 27 [c4] = some q1 := s4
  obtain ⟨a0, e0, _, _⟩ := DataW.trod_int Try.underlying3 s0
  simp at e0
  subst e0
  have wC : ∀ m ∈ z1.1.weights Try.prog 22, m ≤ reachBytes := fun m hm => hw m (agg_mem Try.underlying32 (j := 0) rfl rfl (agg_mem Try.underlying25 (j := 1) rfl rfl hm))
  have wN : ∀ m ∈ q0.1.weights Try.prog 26, m ≤ reachBytes := fun m hm => hw m (agg_mem Try.underlying32 (j := 1) rfl rfl (agg_mem Try.underlying29 (j := 0) rfl rfl hm))
  have wP : ∀ m ∈ q1.1.weights Try.prog 27, m ≤ reachBytes := fun m hm => hw m (agg_mem Try.underlying32 (j := 1) rfl rfl (agg_mem Try.underlying29 (j := 1) rfl rfl hm))
  have wL : ∀ m ∈ y2.1.weights Try.prog 30, m ≤ reachBytes := fun m hm => hw m (agg_mem Try.underlying32 (j := 2) rfl rfl hm)
  have h47 : reachBytes < 2 ^ 47 := reachBytes_lt
  obtain ⟨A1, p1, C, rfl, hc1, hr1, hq1, hs1⟩ := open_list k72 (fun y d => (∀ n ∈ d.weights Try.prog 72, n ≤ reachBytes) → ColR W (tokV y.f1.f1)) Try.underlying22 cs72 (fun _ _ _ h => el_table h) s1
  obtain ⟨A3, p3, N, rfl, hc3, hr3, _, hs3⟩ := open_list Kd.string (fun _ _ => True) Try.underlying26 cs9 (fun _ _ _ h => el_string h) s3
  obtain ⟨A4, p4, Pq, rfl, hc4, hr4, _, hs4⟩ := open_list k66 (fun _ _ => True) Try.underlying27 cs66 (fun _ _ _ h => el_pair h) s4
  obtain ⟨A5, p5, L, rfl, hc5, hr5, hq5, hs5⟩ := open_list k43 (fun y _ => 0 ≤ y.f3 ∧ y.f3 < 256) Try.underlying30 cs43 (fun _ _ _ h => by obtain ⟨y, h1, _, h2, h3, _⟩ := el_grant h; exact ⟨y, h1, h2, h3⟩) t2
  obtain ⟨A2, k2, p2, rfl⟩ : ∃ A k p, c2 = .slice A k p := by
    rcases open_slice Try.underlying23 s2 with ⟨hcs, _⟩ | ⟨a, l, c, _, _, _, _, hcs, _⟩
    · exact ⟨none, 0, 0, (List.cons.inj hcs).1⟩
    · exact ⟨some a, l, c, (List.cons.inj hcs).1⟩
  obtain ⟨u2, hu2⟩ := tok_all A2 k2 p2
  obtain ⟨u3, hu3⟩ := tok_all A3 N.length p3
  obtain ⟨u4, hu4⟩ := tok_all A4 Pq.length p4
  have bC : C.length ≤ 2199023255552 := by
    rcases hs1 with rfl | ⟨k, hk, hm⟩
    · simp
    · have := wC _ hm
      rw [bo72] at this
      omega
  have bN : N.length ≤ 8796093022208 := by
    rcases hs3 with rfl | ⟨k, hk, hm⟩
    · simp
    · have := wN _ hm
      rw [bo9] at this
      omega
  have bP : Pq.length < 4611686018427387904 := by
    rcases hs4 with rfl | ⟨k, hk, hm⟩
    · simp
    · have := wP _ hm
      rw [bo66] at this
      omega
  have bL : L.length < 4611686018427387904 := by
    rcases hs5 with rfl | ⟨k, hk, hm⟩
    · simp
    · have := wL _ hm
      rw [bo43] at this
      omega
  have hT : ∀ t ∈ C.map conv, ColR W (tokV t.f1.f1) := by
    intro t ht
    obtain ⟨c, hc, rfl⟩ := List.mem_map.1 ht
    obtain ⟨d, hd, hwd⟩ := hq1 c hc
    exact hd fun n hn => wC n (hwd n hn)
  refine ⟨a0, u2, u3, u4, A1, A5, p1, p5, L, ⟨C, N, Pq, u3, u4, bC, bN, bP⟩, by rw [hu2, hu3, hu4], rfl, rfl, hr1, hc1, hr5, hc5, fun g hg => (hq5 g hg).choose_spec.1, bL, @SR.mk ⟨⟨C, N, Pq, u3, u4, bC, bN, bP⟩⟩ W ⟨A3, p3, hu3, hc3, hr3⟩ ⟨A4, p4, hu4, hc4, hr4⟩ hT⟩
end
end Go.Proofs.Yteklimdjlihloaa.G
