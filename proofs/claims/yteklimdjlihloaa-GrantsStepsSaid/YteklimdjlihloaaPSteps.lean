/- GrantsSteps, as a plain statement: what counts can be put in a row in which each counts by those ahead of it; what does not count would not count by all of these. Conditions: as each theorem states them. -/
import Derived.Test.YteklimdjlihloaaSp7
import Derived.Test.YteklimdjlihloaaLSteps
namespace Go.Proofs.Yteklimdjlihloaa.G
open Go.RowKit Go.Proofs.YteklimdjlihloaaW.PrintWords
open Classical
set_option linter.unusedSectionVars false
section
variable [Inhabited CtxS]
/-- A grant counts among some. -/
abbrev CX (l : List S43) (g : S43) : Prop := CV XT X.N X.P l g
/-- The row counts by itself; the row and what is left are together what counts. -/
structure StI (l row rest : List S43) : Prop where
  own : ∀ x ∈ row, CX row x
  all : ∀ x, (x ∈ row ∨ x ∈ rest) ↔ CX l x
theorem split_mem (rest : List S43) (j : Nat) (hj : j < rest.length) (x : S43) : x ∈ rest ↔ x = rest[j] ∨ x ∈ rest.take j ++ rest.drop (j + 1) := by
  have e : rest = rest.take j ++ (rest[j] :: rest.drop (j + 1)) := by rw [← List.drop_eq_getElem_cons hj, List.take_append_drop]
  have h : x ∈ rest ↔ x ∈ rest.take j ++ (rest[j] :: rest.drop (j + 1)) := by rw [← e]
  rw [h, List.mem_append, List.mem_cons, List.mem_append]
  constructor
  · rintro (h | h | h)
    · exact Or.inr (Or.inl h)
    · exact Or.inl h
    · exact Or.inr (Or.inr h)
  · rintro (h | h | h)
    · exact Or.inr (Or.inl h)
    · exact Or.inl h
    · exact Or.inr (Or.inr h)
theorem StI.next {l row rest : List S43} (h : StI l row rest) (j : Nat) (hj : j < rest.length) (hc : CX (row ++ [rest[j]]) rest[j]) : StI l (row ++ [rest[j]]) (rest.take j ++ rest.drop (j + 1)) where
  own := by
    intro x hx
    rcases List.mem_append.1 hx with hx | hx
    · exact CV.sub XT X.N X.P (fun y hy => List.mem_append_left _ hy) (h.own x hx)
    · obtain rfl := List.mem_singleton.1 hx
      exact hc
  all := by
    intro x
    rw [← h.all x, split_mem rest j hj x, List.mem_append, List.mem_singleton]
    constructor
    · rintro ((h | h) | h)
      · exact Or.inl h
      · exact Or.inr (Or.inl h)
      · exact Or.inr (Or.inr h)
    · rintro (h | h | h)
      · exact Or.inl (Or.inl h)
      · exact Or.inl (Or.inr h)
      · exact Or.inr h
theorem StI.some {l row rest : List S43} (h : StI l row rest) (hr : rest ≠ []) : ∃ j, ∃ hj : j < rest.length, CX (row ++ [rest[j]]) rest[j] := by
  apply byContradiction
  intro hn
  have no : ∀ x ∈ rest, ¬ CX (row ++ [x]) x := by
    intro x hx hc
    obtain ⟨j, hj, rfl⟩ := List.getElem_of_mem hx
    exact hn ⟨j, hj, hc⟩
  have cl : ∀ x ∈ l, StepV XT X.N X.P (· ∈ row) x → x ∈ row := by
    intro x hx hs
    have hl : CX l x := CV.step XT X.N X.P hx (hs.mono XT X.N X.P fun y hy => (h.all y).1 (Or.inl hy))
    refine ((h.all x).2 hl).resolve_right fun hr => no x hr ?_
    exact CV.step XT X.N X.P (List.mem_append_right _ (List.mem_singleton.2 rfl)) (hs.mono XT X.N X.P fun y hy => CV.sub XT X.N X.P (fun z hz => List.mem_append_left _ hz) (h.own y hy))
  obtain ⟨x, hx⟩ := List.exists_mem_of_ne_nil rest hr
  have hrow : x ∈ row := (h.all x).1 (Or.inr hx) (· ∈ row) cl
  exact no x hx (CV.sub XT X.N X.P (fun z hz => List.mem_append_left _ hz) (h.own x hrow))
theorem StI.last {l row : List S43} (h : StI l row []) {x : S43} (hx : x ∈ l) (hn : ¬ CX l x) : ¬ CX (row ++ [x]) x := by
  intro hc
  refine hn (CV.sub XT X.N X.P (fun y hy => ?_) hc)
  rcases List.mem_append.1 hy with hy | hy
  · exact CV.mem XT X.N X.P ((h.all y).1 (Or.inl hy))
  · obtain rfl := List.mem_singleton.1 hy
    exact hx
/-- What the last of some comes to. -/
theorem last_count (s0 s2 : Int) (row : List S43) (g : S43) (h : row.length < 100) : ∃ t, h_Counts.f s0 XT s2 X.tN X.tP (row ++ [g]) = some t ∧ t.length = row.length + 1 ∧ rdOf false t (row.length : Int) = decide (CX (row ++ [g]) g) := by
  refine ⟨_, h_counts s0 s2 (row ++ [g]) (by rw [List.length_append, List.length_singleton]; omega), by rw [List.length_map, List.length_append, List.length_singleton], ?_⟩
  rw [rdOf_nat _ _ row.length (by rw [List.length_map, List.length_append, List.length_singleton]; omega), List.getElem_map]
  congr 2
  rw [List.getElem_append_right (by omega)]
  simp
variable (l : List S43) (a0 a2 s0 s2 : Int)
theorem steps_l3 (c : List Bool) (hl : l.length ≤ 30) (hc : c = l.map fun g => decide (CX l g)) (row : List S43) (hrow : row.length ≤ 30) (h : StI l row []) : ∀ (d i : Nat), i + d = l.length → ∀ k, d < k →
    g_Steps.l3 k c row (i : Int) a0 X.C a2 X.tN X.tP l s0 XT s2 X.tN X.tP = some true
  | 0, i, hi, k, hk => by
    obtain ⟨k, rfl⟩ : ∃ m, k = m + 1 := ⟨k - 1, by omega⟩
    simp only [g_Steps.l3]
    rw [if_neg (by omega)]
  | d + 1, i, hi, k, hk => by
    obtain ⟨k, rfl⟩ : ∃ m, k = m + 1 := ⟨k - 1, by omega⟩
    have hil : i < l.length := by omega
    have hcl : c.length = l.length := by rw [hc, List.length_map]
    have next : g_Steps.l3 k c row (wrap64 ((i : Int) + 1)) a0 X.C a2 X.tN X.tP l s0 XT s2 X.tN X.tP = some true := by
      rw [wrapN i (by omega)]
      exact steps_l3 c hl hc row hrow h d (i + 1) (by omega) k (by omega)
    have hci : rdOf false c (i : Int) = decide (CX l l[i]) := by
      rw [rdOf_nat false c i (by omega)]
      subst hc
      rw [List.getElem_map]
    simp only [g_Steps.l3]
    rw [if_pos (by omega), if_pos (by omega), if_pos (by omega), hci]
    by_cases e : CX l l[i]
    · rw [if_pos (decide_eq_true e)]
      exact next
    · rw [if_neg (by rw [decide_eq_false e]; simp)]
      obtain ⟨t, ht, htl, hte⟩ := last_count s0 s2 row l[i] (by omega)
      simp only [Option.bind_some, List.length_nil, Nat.zero_add, List.nil_append, List.length_singleton]
      rw [if_pos (by omega), if_pos (by omega), rd43_nat l i hil, ht]
      simp only [Option.bind_some]
      rw [if_pos (by omega), if_pos (by omega), hte, if_neg (by rw [decide_eq_false (h.last (List.getElem_mem hil) e)]; simp)]
      exact next
theorem steps_l2 (c : List Bool) (row rest : List S43) (hrow : row.length ≤ 30) (hrest : rest.length ≤ 30) (K : Nat)
    (hn : ∀ j (hj : j < rest.length), CX (row ++ [rest[j]]) rest[j] → ∀ k, K ≤ k → g_Steps.l1 k c (row ++ [rest[j]]) (rest.take j ++ rest.drop (j + 1)) a0 X.C a2 X.tN X.tP l s0 XT s2 X.tN X.tP = some true) : ∀ (d i : Nat), i + d = rest.length → (∃ j, i ≤ j ∧ ∃ hj : j < rest.length, CX (row ++ [rest[j]]) rest[j]) → ∀ k, K + 2 * d + 4 ≤ k →
    g_Steps.l2 k c row rest (-1) (i : Int) a0 X.C a2 X.tN X.tP l s0 XT s2 X.tN X.tP = some true := by
  intro d
  induction d with
  | zero =>
    rintro i hi ⟨j, h1, h2, _⟩ k hk
    exact absurd h2 (by omega)
  | succ d ih =>
    rintro i hi ⟨j, h1, h2, h3⟩ k hk
    obtain ⟨k, rfl⟩ : ∃ m, k = m + 1 + 1 := ⟨k - 2, by omega⟩
    have hil : i < rest.length := by omega
    obtain ⟨t, ht, htl, hte⟩ := last_count s0 s2 row rest[i] (by omega)
    have eg : (⟨rest[i].f0, rest[i].f1, rest[i].f2, rest[i].f3, rest[i].f4⟩ : S43) = rest[i] := rfl
    have e0 : wrap64 (((row ++ [rest[i]]).length : Int) - 1) = (row.length : Int) := by rw [List.length_append, List.length_singleton]; unfold wrap64; omega
    rw [g_Steps.l2, if_pos (by omega), show decide ((-1 : Int) < 0) = true by decide]
    rw [g_Steps.j4, if_pos rfl, Option.bind_some, if_pos (by rw [List.length_nil]; omega), Option.bind_some, if_pos (by omega), if_pos (by omega), Option.bind_some, if_pos (by rw [List.length_append, List.length_nil, List.length_singleton]; omega), Option.bind_some, rd43_nat rest i hil, eg, List.nil_append, ht, Option.bind_some, if_pos (by rw [e0]; omega), if_pos (by rw [e0]; omega)]
    by_cases e : CX (row ++ [rest[i]]) rest[i]
    · rw [if_pos (by rw [e0, hte]; exact decide_eq_true e)]
      obtain ⟨k, rfl⟩ : ∃ m, k = m + 1 + 1 := ⟨k - 2, by omega⟩
      have fin : g_Steps.j4 (k + 1) c row rest (i : Int) (wrap64 ((i : Int) + 1)) false a0 X.C a2 X.tN X.tP l s0 XT s2 X.tN X.tP = some true := by
        have e1 : wrap64 ((i : Int) + 1) = ((i + 1 : Nat) : Int) := wrapN i (by omega)
        have hlt : (rest.take i).length ≤ 30 := Nat.le_trans (List.length_take_le _ _) (by omega)
        have hld : (rest.drop (i + 1)).length ≤ 30 := by rw [List.length_drop]; omega
        rw [g_Steps.j4, if_neg (by decide), if_neg (by omega), if_pos (by omega), if_pos (by omega), Option.bind_some, if_pos (by rw [List.length_singleton]; omega), Option.bind_some, if_pos (by omega), Option.bind_some, show ((i : Int)).toNat = i by omega, if_pos (by rw [List.length_nil]; omega), Option.bind_some, if_pos (by omega), if_pos (by omega), Option.bind_some, e1, show (((i + 1 : Nat) : Int)).toNat = i + 1 by omega, if_pos (by rw [List.length_append, List.length_nil]; omega), rd43_nat rest i hil, eg, List.nil_append]
        exact hn i hil e k (by omega)
      rw [g_Steps.l2]
      by_cases e2 : (wrap64 ((i : Int) + 1)) < (rest.length : Int)
      · rw [if_pos e2, show decide ((i : Int) < 0) = false from decide_eq_false (by omega)]
        exact fin
      · rw [if_neg e2]
        exact fin
    · rw [if_neg (by rw [e0, hte, decide_eq_false e]; simp), wrapN i (by omega)]
      refine ih (i + 1) (by omega) ⟨j, ?_, h2, h3⟩ k (by omega)
      by_cases e2 : j = i
      · subst e2
        exact absurd h3 e
      · omega
theorem steps_l1 (c : List Bool) (hl : l.length ≤ 30) (hc : c = l.map fun g => decide (CX l g)) : ∀ (n : Nat) (row rest : List S43), rest.length = n → row.length + n ≤ 30 → StI l row rest → ∀ k, 70 * n + 40 ≤ k →
    g_Steps.l1 k c row rest a0 X.C a2 X.tN X.tP l s0 XT s2 X.tN X.tP = some true
  | 0, row, rest, hr, hrow, h, k, hk => by
    obtain ⟨k, rfl⟩ : ∃ m, k = m + 1 := ⟨k - 1, by omega⟩
    obtain rfl := List.length_eq_zero_iff.1 hr
    rw [g_Steps.l1, if_neg (by simp)]
    exact steps_l3 l a0 a2 s0 s2 c hl hc row (by omega) h l.length 0 (by omega) k (by omega)
  | n + 1, row, rest, hr, hrow, h, k, hk => by
    obtain ⟨k, rfl⟩ : ∃ m, k = m + 1 := ⟨k - 1, by omega⟩
    rw [g_Steps.l1, if_pos (by omega)]
    obtain ⟨j, hj, hcj⟩ := h.some (by intro e; rw [e] at hr; simp at hr)
    refine steps_l2 l a0 a2 s0 s2 c row rest (by omega) (by omega) (70 * n + 40) (fun j hj hcj k hk => ?_) rest.length 0 (by omega) ⟨j, Nat.zero_le _, hj, hcj⟩ k (by omega)
    refine steps_l1 c hl hc n _ _ ?_ ?_ (h.next j hj hcj) k hk
    · rw [List.length_append, List.length_take, List.length_drop]; omega
    · rw [List.length_append, List.length_singleton]; omega
theorem steps_l0 (c : List Bool) (hl : l.length ≤ 30) (hc : c = l.map fun g => decide (CX l g)) : ∀ (d i : Nat) (out : List S43), i + d = l.length → out.length ≤ i → ∀ k,
    g_Steps.l0 (k + d + 1) c out (i : Int) a0 X.C a2 X.tN X.tP l s0 XT s2 X.tN X.tP = g_Steps.l1 k c [] (out ++ (l.drop i).filter fun g => decide (CX l g)) a0 X.C a2 X.tN X.tP l s0 XT s2 X.tN X.tP
  | 0, i, out, h, ho, k => by
    simp only [Nat.add_zero, g_Steps.l0]
    rw [if_neg (by omega), List.drop_eq_nil_of_le (by omega)]
    simp
  | d + 1, i, out, h, ho, k => by
    have hil : i < l.length := by omega
    have hd : l.drop i = l[i] :: l.drop (i + 1) := List.drop_eq_getElem_cons hil
    have hcl : c.length = l.length := by rw [hc, List.length_map]
    have hci : rdOf false c (i : Int) = decide (CX l l[i]) := by
      rw [rdOf_nat false c i (by omega)]
      subst hc
      rw [List.getElem_map]
    rw [show k + (d + 1) + 1 = (k + d + 1) + 1 by omega, g_Steps.l0, if_pos (by omega), if_pos (by omega), if_pos (by omega), hci]
    by_cases e : CX l l[i]
    · rw [if_pos (decide_eq_true e)]
      simp only [Option.bind_some, List.length_singleton]
      rw [if_pos (by omega), wrapN i (by omega), rd43_nat l i hil, steps_l0 c hl hc d (i + 1) _ (by omega) (by rw [List.length_append, List.length_singleton]; omega) k, hd, List.filter_cons_of_pos (p := fun g => decide (CX l g)) (decide_eq_true e), List.append_assoc, List.singleton_append]
    · rw [if_neg (by rw [decide_eq_false e]; simp), wrapN i (by omega), steps_l0 c hl hc d (i + 1) out (by omega) (by omega) k, hd, List.filter_cons_of_neg (p := fun g => decide (CX l g)) (by rw [decide_eq_false e]; simp)]
theorem steps_pure (hl : Fits l) : ∃ k, g_Steps.f k a0 X.C a2 X.tN X.tP l = some true := by
  unfold g_Steps.f
  simp only [h_works.f, Option.bind_some, if_true]
  rw [h_large l a0 a2 hl]
  simp only [Option.bind_some]
  cases hlg : largeP l with
  | true => exact ⟨1, by simp [g_Steps.j0, h_works.f]⟩
  | false =>
    have hs := (largeP_small hlg).2.2.2
    refine ⟨(X.C.length + 70 * 30 + 40) + l.length + 1 + 1, ?_⟩
    rw [g_Steps.j0, if_neg (by decide), h_state l a0 a2 _ (by omega)]
    simp only [Option.bind_some, h_Case_roled.f]
    rw [h_counts _ _ _ (by omega)]
    simp only [Option.bind_some]
    rw [if_pos (by rw [List.length_map])]
    have h0 := steps_l0 l a0 a2 a0 0 _ hs rfl l.length 0 [] (by omega) (Nat.zero_le _) (X.C.length + 70 * 30 + 40)
    rw [show ((0 : Nat) : Int) = 0 from rfl] at h0
    simp only [List.drop_zero, List.nil_append] at h0
    rw [h0]
    have hfl : (l.filter fun g => decide (CX l g)).length ≤ l.length := List.length_filter_le _ _
    refine steps_l1 l a0 a2 a0 0 _ hs rfl _ [] _ rfl (by simp; omega) ⟨fun x hx => absurd hx (by simp), fun x => ?_⟩ _ (by omega)
    constructor
    · rintro (h | h)
      · cases h
      · exact of_decide_eq_true (List.mem_filter.1 h).2
    · intro h
      exact Or.inr (List.mem_filter.2 ⟨CV.mem XT X.N X.P h, decide_eq_true h⟩)
end
end Go.Proofs.Yteklimdjlihloaa.G
