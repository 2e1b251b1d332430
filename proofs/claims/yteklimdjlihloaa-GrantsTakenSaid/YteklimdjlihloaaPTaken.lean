/- GrantsTaken, as a plain statement: behind Take each grant that is left counts as it did; none but that one is gone without all. Conditions: as each theorem states them. -/
import Derived.Test.YteklimdjlihloaaSp7
import Derived.Test.YteklimdjlihloaaSp8
import Derived.Test.YteklimdjlihloaaLTaken
namespace Go.Proofs.Yteklimdjlihloaa.G
open Go.RowKit Go.Proofs.YteklimdjlihloaaW.PrintWords
open Classical
section
variable [Inhabited CtxS] (role : ByteArray) (g : S43) (all : Bool) (l : List S43) (hl : l.length ≤ 30) (a0 a2 : Int)
variable (hall : all = true ∨ ∀ x ∈ l, x ≠ g → CV XT X.N X.P l x → CV XT X.N X.P (but l g) x)
include hl hall
theorem taken_l0 : ∀ (d i a : Nat), i + d = l.length → a ≤ (l.filter (keepT XT X.N X.P l g)).length → (l.filter (keepT XT X.N X.P l g)).drop a = (l.drop i).filter (keepT XT X.N X.P l g) → ∀ k, 2 * d < k →
    g_Taken.l0 k all (l.filter (keepT XT X.N X.P l g)) (l.map fun x => decide (CV XT X.N X.P l x)) ((l.filter (keepT XT X.N X.P l g)).map fun x => decide (CV XT X.N X.P (l.filter (keepT XT X.N X.P l g)) x)) (a : Int) (i : Int) a0 X.C a2 X.tN X.tP l g.f0 g.f1 g.f2 g.f3 g.f4 = some true
  | 0, i, a, h, ha, hd, k, hk => by
    obtain ⟨k, rfl⟩ : ∃ m, k = m + 1 := ⟨k - 1, by omega⟩
    rw [g_Taken.l0, if_neg (by omega)]
    rw [List.drop_eq_nil_of_le (show l.length ≤ i by omega), List.filter_nil] at hd
    have := List.drop_eq_nil_iff.1 hd
    have e : a = (l.filter (keepT XT X.N X.P l g)).length := by omega
    rw [← e]
    simp
  | d + 1, i, a, h, ha, hd, k, hk => by
    obtain ⟨k, rfl⟩ : ∃ m, k = m + 2 := ⟨k - 2, by omega⟩
    have hil : i < l.length := by omega
    have hfl : (l.filter (keepT XT X.N X.P l g)).length ≤ l.length := List.length_filter_le _ _
    have hd0 : l.drop i = l[i] :: l.drop (i + 1) := List.drop_eq_getElem_cons hil
    rw [hd0] at hd
    rw [g_Taken.l0, if_pos (by omega)]
    by_cases hk1 : keepT XT X.N X.P l g l[i] = true
    · rw [List.filter_cons_of_pos hk1] at hd
      have hal : a < (l.filter (keepT XT X.N X.P l g)).length := by
        apply byContradiction
        intro hn
        rw [List.drop_eq_nil_of_le (by omega)] at hd
        cases hd
      rw [List.drop_eq_getElem_cons hal] at hd
      obtain ⟨he, hd⟩ := List.cons.inj hd
      rw [if_pos (by omega), if_pos (by omega), if_pos (by omega), rd43_nat _ a hal, rd43_nat l i hil, g43_beq, decide_eq_true he]
      rw [g_Taken.j2, if_pos rfl, if_pos (by omega), if_pos (by rw [List.length_map]; omega), if_pos (by omega), if_pos (by rw [List.length_map]; omega), rdOf_nat false _ i (by rw [List.length_map]; omega), rdOf_nat false _ a (by rw [List.length_map]; omega), List.getElem_map, List.getElem_map, if_neg, wrapN a (by omega), wrapN i (by omega)]
      · exact taken_l0 d (i + 1) (a + 1) (by omega) (by omega) hd k (by omega)
      · have hm : l[i] ∈ l.filter (keepT XT X.N X.P l g) := List.mem_filter.2 ⟨List.getElem_mem hil, hk1⟩
        have e3 : decide (CV XT X.N X.P l l[i]) = decide (CV XT X.N X.P (l.filter (keepT XT X.N X.P l g)) l[i]) := decide_eq_decide.2 (kept_same XT X.N X.P l g hm)
        rw [he, e3]
        simp
    · rw [List.filter_cons_of_neg hk1] at hd
      have J : g_Taken.j2 (k + 1) all (l.filter (keepT XT X.N X.P l g)) (l.map fun x => decide (CV XT X.N X.P l x)) ((l.filter (keepT XT X.N X.P l g)).map fun x => decide (CV XT X.N X.P (l.filter (keepT XT X.N X.P l g)) x)) (a : Int) (i : Int) false a0 X.C a2 X.tN X.tP l g.f0 g.f1 g.f2 g.f3 g.f4 = some true := by
        have next := taken_l0 d (i + 1) a (by omega) ha hd k (by omega)
        rw [g_Taken.j2, if_neg Bool.false_ne_true, if_pos (by omega), if_pos (by omega), rd43_nat l i hil, g43_bne]
        by_cases e : l[i] = g
        · rw [if_neg (by rw [decide_eq_true e]; simp), wrapN i (by omega)]
          exact next
        · rw [if_pos (by rw [decide_eq_false e]; rfl)]
          have hn : ¬ (CV XT X.N X.P (but l g) l[i] ∨ ¬ CV XT X.N X.P l l[i]) := fun hh => hk1 (decide_eq_true ⟨e, hh⟩)
          have hw : CV XT X.N X.P l l[i] := byContradiction fun hh => hn (Or.inr hh)
          have ha1 : all = true := hall.resolve_right fun hh => hn (Or.inl (hh l[i] (List.getElem_mem hil) e hw))
          rw [if_pos ha1, if_pos (by rw [List.length_map]; omega), rdOf_nat false _ i (by rw [List.length_map]; omega), List.getElem_map, if_pos (decide_eq_true hw), wrapN i (by omega)]
          exact next
      by_cases hal : a < (l.filter (keepT XT X.N X.P l g)).length
      · have hne : (l.filter (keepT XT X.N X.P l g))[a] ≠ l[i] := by
          intro he
          have := (List.mem_filter.1 (List.getElem_mem hal)).2
          rw [he] at this
          exact hk1 this
        rw [if_pos (by omega), if_pos (by omega), if_pos (by omega), rd43_nat _ a hal, rd43_nat l i hil, g43_beq, decide_eq_false hne]
        exact J
      · rw [if_neg (by omega)]
        exact J
omit hl hall in
theorem taken_pure (hfl : Fits l) : ∃ k, g_Taken.f k a0 X.C a2 X.tN X.tP l role g.f0 g.f1 g.f2 g.f3 g.f4 all = some true := by
  have hw : h_works.f = some true := rfl
  have jt : ∀ k, 0 < k → g_Taken.j0 k role all true a0 X.C a2 X.tN X.tP l g.f0 g.f1 g.f2 g.f3 g.f4 = some true := by
    intro k hk
    obtain ⟨k, rfl⟩ : ∃ m, k = m + 1 := ⟨k - 1, by omega⟩
    rw [g_Taken.j0, if_pos rfl, hw, Option.bind_some]
  cases hlg : largeP l with
  | true =>
    refine ⟨1, ?_⟩
    unfold g_Taken.f
    rw [hw, Option.bind_some, if_pos rfl, h_large l a0 a2 hfl, hlg, Option.bind_some, if_pos rfl]
    exact jt 1 (by omega)
  | false =>
    by_cases e0 : (role.size : Int) > 400
    · refine ⟨1, ?_⟩
      unfold g_Taken.f
      rw [hw, Option.bind_some, if_pos rfl, h_large l a0 a2 hfl, hlg, Option.bind_some, if_neg Bool.false_ne_true, if_pos e0]
      exact jt 1 (by omega)
    by_cases e1 : (wrap64 ((g.f0.size : Int) + (g.f1.size : Int))) > 400
    · refine ⟨1, ?_⟩
      unfold g_Taken.f
      rw [hw, Option.bind_some, if_pos rfl, h_large l a0 a2 hfl, hlg, Option.bind_some, if_neg Bool.false_ne_true, if_neg e0, if_pos e1]
      exact jt 1 (by omega)
    by_cases e : (g.f2.size : Int) > 400
    · refine ⟨1, ?_⟩
      unfold g_Taken.f
      rw [hw, Option.bind_some, if_pos rfl, h_large l a0 a2 hfl, hlg, Option.bind_some, if_neg Bool.false_ne_true, if_neg e0, if_neg e1, decide_eq_true e]
      exact jt 1 (by omega)
    · have hs := (largeP_small hlg).2.2.2
      refine ⟨X.C.length + 100, ?_⟩
      unfold g_Taken.f
      rw [hw, Option.bind_some, if_pos rfl, h_large l a0 a2 hfl, hlg, Option.bind_some, if_neg Bool.false_ne_true, if_neg e0, if_neg e1, decide_eq_false e, show X.C.length + 100 = (X.C.length + 99) + 1 by omega]
      rw [g_Taken.j0, if_neg Bool.false_ne_true, h_state l a0 a2 _ (by omega), Option.bind_some, h_Case_roled.f, Option.bind_some, h_take _ _ l (by omega), Option.bind_some]
      by_cases hz : (takeP XT X.N X.P l role g all).2 = 0
      · obtain ⟨h1, h2⟩ := take_ok XT X.N X.P l g hz
        have hfl2 : (l.filter (keepT XT X.N X.P l g)).length ≤ l.length := List.length_filter_le _ _
        rw [if_pos hz, h_counts _ _ l (by omega), Option.bind_some, h1, h_counts _ _ _ (by omega), Option.bind_some]
        exact taken_l0 g all l hs a0 a2 h2 l.length 0 0 (by omega) (Nat.zero_le _) rfl _ (by omega)
      · rw [if_neg hz, take_bad XT X.N X.P l g hz]
        rfl
end
end Go.Proofs.Yteklimdjlihloaa.G
