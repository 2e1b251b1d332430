/- GrantsAlone, as a plain statement: of grants on a table that nobody gave who may all of it none counts. Conditions: as each theorem states them. -/
import Derived.Test.YteklimdjlihloaaSp7
import Derived.Test.YteklimdjlihloaaLAlone
namespace Go.Proofs.Yteklimdjlihloaa.G
open Go.RowKit Go.Proofs.YteklimdjlihloaaW.PrintWords
open Classical
theorem alone_v (T : List S71) (N : List ByteArray) (P : List S66) (l : List S43) (table : ByteArray) (hb : Byte l) (h : ∀ g ∈ l, g.f2 = table → ¬ AllP T N P g.f0 table) {g : S43} (hg : CV T N P l g) : g.f2 ≠ table := by
  refine hg (fun x => x.f2 ≠ table) fun x hx hs e => ?_
  obtain ⟨hf, hs⟩ := hs
  rcases hs with hs | hs
  · exact h x hx e (e ▸ hs)
  · obtain ⟨b, hb8, hx1⟩ := bit_some (hb x hx).1 (hb x hx).2 hf.2.2.2.1
    obtain ⟨y, h1, _, h2, _⟩ := hs b hb8 hx1
    exact h1 (h2.trans e)
section
variable [Inhabited CtxS] (table : ByteArray)
theorem alone_l1 (l : List S43) (c : List Bool) (hl : Fits l) (hc : c.length = l.length) (h : ∀ i (hi : i < l.length), l[i].f2 = table → c[i]'(by omega) = false) : ∀ (d i : Nat), i + d = l.length → ∀ k, d < k → g_Alone.l1 k table l c (i : Int) = some true
  | 0, i, hi, k, hk => by
    obtain ⟨k, rfl⟩ : ∃ m, k = m + 1 := ⟨k - 1, by omega⟩
    simp only [g_Alone.l1]
    rw [if_neg (by omega)]
  | d + 1, i, hi, k, hk => by
    have hf : l.length < 4611686018427387904 := hl
    obtain ⟨k, rfl⟩ : ∃ m, k = m + 1 := ⟨k - 1, by omega⟩
    have hil : i < l.length := by omega
    have next : g_Alone.l1 k table l c (wrap64 ((i : Int) + 1)) = some true := by
      rw [wrapN i (by omega)]
      exact alone_l1 l c hl hc h d (i + 1) (by omega) k (by omega)
    simp only [g_Alone.l1]
    rw [if_pos (by omega), if_pos (by omega), rd43_nat l i hil]
    by_cases e : l[i].f2 = table
    · rw [if_pos (by rw [e]), if_pos (by omega), rdOf_nat false c i (by omega), h i hil e]
      simpa using next
    · rw [if_neg (fun h => e (ba_eq.1 h))]
      exact next
/-- What the law keeps. -/
noncomputable def keepA (g : S43) : Bool := decide (g.f2 ≠ table ∨ ¬ AllP XT X.N X.P g.f0 table)
theorem alone_l0 (l : List S43) (hl : l.length ≤ 30) (a0 a2 s0 s2 : Int) : ∀ (d i : Nat) (out : List S43), i + d = l.length → out.length ≤ i → ∀ k,
    g_Alone.l0 (k + d + 1) table out (i : Int) a0 X.C a2 X.tN X.tP l s0 XT s2 X.tN X.tP = (h_Counts.f s0 XT s2 X.tN X.tP (out ++ (l.drop i).filter (keepA table))).bind fun t => g_Alone.l1 k table (out ++ (l.drop i).filter (keepA table)) t 0
  | 0, i, out, h, ho, k => by
    simp only [Nat.add_zero, g_Alone.l0]
    rw [if_neg (by omega), List.drop_eq_nil_of_le (by omega)]
    simp
  | d + 1, i, out, h, ho, k => by
    have hil : i < l.length := by omega
    have hd : l.drop i = l[i] :: l.drop (i + 1) := List.drop_eq_getElem_cons hil
    have add : keepA table l[i] = true → (if out.length < 2513169434916 then g_Alone.l0 (k + d + 1) table (out ++ [(⟨l[i].f0, l[i].f1, l[i].f2, l[i].f3, l[i].f4⟩ : S43)]) (wrap64 ((i : Int) + 1)) a0 X.C a2 X.tN X.tP l s0 XT s2 X.tN X.tP else none) = (h_Counts.f s0 XT s2 X.tN X.tP (out ++ (l.drop i).filter (keepA table))).bind fun t => g_Alone.l1 k table (out ++ (l.drop i).filter (keepA table)) t 0 := by
      intro hk
      rw [if_pos (by omega), wrapN i (by omega), alone_l0 l hl a0 a2 s0 s2 d (i + 1) _ (by omega) (by rw [List.length_append, List.length_singleton]; omega) k, hd, List.filter_cons_of_pos hk, List.append_assoc, List.singleton_append]
    rw [show k + (d + 1) + 1 = (k + d + 1) + 1 by omega, g_Alone.l0, if_pos (by omega), if_pos (by omega), rd43_nat l i hil]
    by_cases e : l[i].f2 = table
    · rw [if_pos (by rw [e]), h_all]
      simp only [Option.bind_some]
      by_cases e2 : AllP XT X.N X.P l[i].f0 table
      · rw [if_pos (decide_eq_true e2), wrapN i (by omega), alone_l0 l hl a0 a2 s0 s2 d (i + 1) out (by omega) (by omega) k, hd, List.filter_cons_of_neg (by unfold keepA; simp [e, e2])]
      · rw [if_neg (by rw [decide_eq_false e2]; simp)]
        exact add (by unfold keepA; simp [e2])
    · rw [if_neg (fun h => e (ba_eq.1 h))]
      exact add (by unfold keepA; simp [e])
theorem alone_pure (l : List S43) (a0 a2 : Int) (hl : Fits l) (hb : Byte l) : ∃ k, g_Alone.f k a0 X.C a2 X.tN X.tP l table = some true := by
  have jt : ∀ k, 0 < k → g_Alone.j0 k table true a0 X.C a2 X.tN X.tP l = some true := by
    intro k hk
    obtain ⟨k, rfl⟩ : ∃ m, k = m + 1 := ⟨k - 1, by omega⟩
    simp [g_Alone.j0, h_works.f]
  unfold g_Alone.f
  simp only [h_works.f, Option.bind_some, if_true]
  rw [h_large l a0 a2 hl]
  simp only [Option.bind_some]
  cases hlg : largeP l with
  | true => exact ⟨1, by simp only [if_true]; exact jt 1 (by omega)⟩
  | false =>
    simp only [Bool.false_eq_true, if_false]
    by_cases e : (table.size : Int) > 400
    · exact ⟨1, by rw [decide_eq_true e]; exact jt 1 (by omega)⟩
    · have hs := (largeP_small hlg).2.2.2
      refine ⟨(X.C.length + 40) + l.length + 2, ?_⟩
      rw [decide_eq_false e]
      simp only [g_Alone.j0, Bool.false_eq_true, if_false]
      rw [h_state l a0 a2 _ (by omega)]
      simp only [Option.bind_some, h_Case_roled.f]
      have h0 := alone_l0 table l hs a0 a2 a0 0 l.length 0 [] (by omega) (Nat.zero_le _) (X.C.length + 40)
      rw [show ((0 : Nat) : Int) = 0 from rfl] at h0
      simp only [List.drop_zero, List.nil_append] at h0
      rw [h0]
      have hfl : (l.filter (keepA table)).length ≤ l.length := List.length_filter_le _ _
      rw [h_counts _ _ _ (by omega)]
      simp only [Option.bind_some]
      refine alone_l1 table _ _ (by unfold Fits; omega) (by rw [List.length_map]) ?_ (l.filter (keepA table)).length 0 (by omega) _ (by omega)
      intro i hi ht
      rw [List.getElem_map]
      refine decide_eq_false fun hc => alone_v XT X.N X.P (l.filter (keepA table)) table (fun g hg => hb g (List.mem_filter.1 hg).1) ?_ hc ht
      intro g hg e1 e2
      have := (List.mem_filter.1 hg).2
      unfold keepA at this
      exact (of_decide_eq_true this).elim (fun h => h e1) (fun h => h e2)
end
end Go.Proofs.Yteklimdjlihloaa.G
