/- GrantsGiven, as a plain statement: behind Give the new grant counts and its To may its rights; taken with all the grants that count are those that counted ahead of it. Conditions: as each theorem states them. -/
import Derived.Test.YteklimdjlihloaaSp7
import Derived.Test.YteklimdjlihloaaSp8
import Derived.Test.YteklimdjlihloaaLGiven
namespace Go.Proofs.Yteklimdjlihloaa.G
open Go.RowKit Go.Proofs.YteklimdjlihloaaW.PrintWords
open Classical
section
variable (T : List S71) (N : List ByteArray) (P : List S66) (l : List S43) (g : S43) (role : ByteArray)
theorem give_ok (h : (giveP T N P l role g).2 = 0) : (giveP T N P l role g).1 = l ++ [g] ∧ (∃ t, FindP T g.f2 = some t) ∧ g.f1 ∈ N ∧ g.f3 ≠ 0 ∧ Go.bits .andNot .u8 g.f3 31 = 0 ∧ g.f0 = role ∧ MayP T N P l true role g.f2 g.f3 ∧ g ∉ l := by
  unfold giveP at h ⊢
  split at h
  · cases h
  split at h
  · cases h
  split at h
  · cases h
  split at h
  · cases h
  rename_i h1 h2 h3 h4
  rw [if_neg h1, if_neg h2, if_neg h3, if_neg h4]
  refine ⟨rfl, byContradiction fun h => h1 (Or.inl h), byContradiction fun h => h1 (Or.inr h), fun h => h2 (Or.inl h), byContradiction fun h => h2 (Or.inr (Or.inl h)), byContradiction fun h => h2 (Or.inr (Or.inr h)), byContradiction h3, h4⟩
theorem give_bad (h : (giveP T N P l role g).2 ≠ 0) : (giveP T N P l role g).1 = [] := by
  unfold giveP at h ⊢
  split
  · rfl
  split
  · rfl
  split
  · rfl
  split
  · rfl
  · rename_i h1 h2 h3 h4
    rw [if_neg h1, if_neg h2, if_neg h3, if_neg h4] at h
    exact absurd rfl h
theorem given_counts (h : (giveP T N P l role g).2 = 0) : CV T N P (l ++ [g]) g := by
  obtain ⟨_, h1, h2, h3, h4, h5, h6, _⟩ := give_ok T N P l g role h
  rw [may_iff] at h6
  refine CV.step T N P (List.mem_append_right _ (List.mem_singleton.2 rfl)) ⟨⟨h1, by rw [h5]; exact h6.2.1, h2, h3, h4⟩, ?_⟩
  rw [h5]
  exact h6.2.2.imp id (CovV.mono N P fun x hx => CV.sub T N P (fun y hy => List.mem_append_left _ hy) hx)
theorem given_may (h : (giveP T N P l role g).2 = 0) (q : Bool) (hq : q = true → g.f4 = true) : MayP T N P (l ++ [g]) q g.f1 g.f2 g.f3 := by
  obtain ⟨_, h1, h2, _⟩ := give_ok T N P l g role h
  rw [may_iff]
  exact ⟨h1, h2, Or.inr fun b hb hr => ⟨g, given_counts T N P l g role h, hq, rfl, ⟨h2, h2, .here⟩, hr⟩⟩
theorem given_take (h : (giveP T N P l role g).2 = 0) : (takeP T N P (l ++ [g]) role g true).2 = 0 := by
  obtain ⟨_, h1, h2, _, _, h5, _⟩ := give_ok T N P l g role h
  unfold takeP
  rw [if_neg (fun hh => hh.elim (fun hh => hh h1) (fun hh => hh (List.mem_append_right _ (List.mem_singleton.2 rfl)))), if_neg (fun hh => hh.1 h5), if_neg (fun hh => Bool.noConfusion hh.1)]
theorem but_given (h : g ∉ l) : but (l ++ [g]) g = l := by
  unfold but
  rw [List.filter_append, List.filter_cons_of_neg (by simp), List.filter_nil, List.append_nil]
  refine List.filter_eq_self.2 fun x hx => decide_eq_true ?_
  rintro rfl
  exact h hx
theorem given_back (h : g ∉ l) : l.filter (fun x => decide (CV T N P l x)) = ((l ++ [g]).filter (keepT T N P (l ++ [g]) g)).filter fun x => decide (CV T N P ((l ++ [g]).filter (keepT T N P (l ++ [g]) g)) x) := by
  rw [List.filter_filter, List.filter_append]
  have e : ∀ x, CV T N P ((l ++ [g]).filter (keepT T N P (l ++ [g]) g)) x ↔ CV T N P l x := fun x => by
    rw [← kept_cv T N P (l ++ [g]) g x, but_given l g h]
  have hg : [g].filter (fun x => decide (CV T N P ((l ++ [g]).filter (keepT T N P (l ++ [g]) g)) x) && keepT T N P (l ++ [g]) g x) = [] := by
    rw [List.filter_cons_of_neg, List.filter_nil]
    rw [decide_eq_false fun hh => h (CV.mem T N P ((e g).1 hh))]
    simp
  rw [hg, List.append_nil]
  refine List.filter_congr fun x hx => ?_
  rw [decide_eq_decide.2 (e x)]
  by_cases hc : CV T N P l x
  · have : keepT T N P (l ++ [g]) g x = true := by
      unfold keepT
      refine decide_eq_true ⟨fun e => h (e ▸ hx), Or.inl ?_⟩
      rw [but_given l g h]
      exact hc
    rw [this, Bool.and_true]
  · rw [decide_eq_false hc, Bool.false_and]
end
section
variable [Inhabited CtxS] (role : ByteArray) (g : S43) (l : List S43) (hl : l.length ≤ 31) (a0 a2 s0 s2 : Int)
theorem given_l1 (b a : List S43) (p : S43 → Bool) (hb : b.length ≤ 31) (ha : a.length ≤ 31) : ∀ (d i : Nat) (out : List S43), i + d = b.length → out.length ≤ i → ∀ k,
    g_Given.l1 (k + d + 1) b a out (b.map p) (i : Int) = (covenantref19_Same.f k a (out ++ (b.drop i).filter p)).bind fun t => some t
  | 0, i, out, h, ho, k => by
    rw [Nat.add_zero, g_Given.l1, if_neg (by omega), List.drop_eq_nil_of_le (by omega), List.filter_nil, List.append_nil]
  | d + 1, i, out, h, ho, k => by
    have hi : i < b.length := by omega
    have hd : b.drop i = b[i] :: b.drop (i + 1) := List.drop_eq_getElem_cons hi
    rw [show k + (d + 1) + 1 = (k + d + 1) + 1 by omega, g_Given.l1, if_pos (by omega), if_pos (by omega), if_pos (by rw [List.length_map]; omega), rdOf_nat false _ i (by rw [List.length_map]; omega), List.getElem_map, rd43_nat b i hi, hd, wrapN i (by omega)]
    by_cases e : p b[i] = true
    · rw [if_pos e, if_pos (by omega), given_l1 b a p hb ha d (i + 1) _ (by omega) (by rw [List.length_append, List.length_singleton]; omega) k, List.filter_cons_of_pos e, List.append_assoc, List.singleton_append]
    · rw [if_neg e, given_l1 b a p hb ha d (i + 1) out (by omega) (by omega) k, List.filter_cons_of_neg e]
include hl in
theorem given_l0 (back : List S43) (p : S43 → Bool) : ∀ (d i : Nat) (out : List S43), i + d = l.length → out.length ≤ i → ∀ k,
    g_Given.l0 (k + d + 1) (l.map p) back out (i : Int) a0 X.C a2 X.tN X.tP l s0 XT s2 X.tN X.tP = (h_Counts.f s0 XT s2 X.tN X.tP back).bind fun t => g_Given.l1 k back (out ++ (l.drop i).filter p) [] t 0
  | 0, i, out, h, ho, k => by
    rw [Nat.add_zero, g_Given.l0, if_neg (by omega), List.drop_eq_nil_of_le (by omega), List.filter_nil, List.append_nil]
  | d + 1, i, out, h, ho, k => by
    have hi : i < l.length := by omega
    have hd : l.drop i = l[i] :: l.drop (i + 1) := List.drop_eq_getElem_cons hi
    rw [show k + (d + 1) + 1 = (k + d + 1) + 1 by omega, g_Given.l0, if_pos (by omega), if_pos (by omega), if_pos (by rw [List.length_map]; omega), rdOf_nat false _ i (by rw [List.length_map]; omega), List.getElem_map, rd43_nat l i hi, hd, wrapN i (by omega)]
    by_cases e : p l[i] = true
    · rw [if_pos e, if_pos (by omega), given_l0 back p d (i + 1) _ (by omega) (by rw [List.length_append, List.length_singleton]; omega) k, List.filter_cons_of_pos e, List.append_assoc, List.singleton_append]
    · rw [if_neg e, given_l0 back p d (i + 1) out (by omega) (by omega) k, List.filter_cons_of_neg e]
theorem given_j1 (hs : l.length ≤ 30) (hz : (giveP XT X.N X.P l role g).2 = 0) : ∀ k, 200 ≤ k → g_Given.j1 k role (l ++ [g]) false a0 X.C a2 X.tN X.tP l g.f0 g.f1 g.f2 g.f3 g.f4 s0 XT s2 X.tN X.tP = some true := by
  intro k hk
  have ha : (l ++ [g]).length = l.length + 1 := by rw [List.length_append, List.length_singleton]
  have hg := (give_ok XT X.N X.P l g role hz).2.2.2.2.2.2.2
  have ht := given_take XT X.N X.P l g role hz
  have hfl : ((l ++ [g]).filter (keepT XT X.N X.P (l ++ [g]) g)).length ≤ (l ++ [g]).length := List.length_filter_le _ _
  have hfl2 : (l.filter fun x => decide (CV XT X.N X.P l x)).length ≤ l.length := List.length_filter_le _ _
  obtain ⟨k, rfl⟩ : ∃ m, k = ((m + ((l ++ [g]).filter (keepT XT X.N X.P (l ++ [g]) g)).length + 1) + l.length + 1) + 1 := ⟨k - ((l ++ [g]).filter (keepT XT X.N X.P (l ++ [g]) g)).length - l.length - 3, by omega⟩
  rw [g_Given.j1, if_neg Bool.false_ne_true, h_counts _ _ l (by omega), Option.bind_some, h_take _ _ (l ++ [g]) (by omega), Option.bind_some, if_pos ht, (take_ok XT X.N X.P (l ++ [g]) g ht).1]
  have h0 := given_l0 l (by omega) a0 a2 s0 s2 ((l ++ [g]).filter (keepT XT X.N X.P (l ++ [g]) g)) (fun x => decide (CV XT X.N X.P l x)) l.length 0 [] (by omega) (Nat.zero_le _) (k + ((l ++ [g]).filter (keepT XT X.N X.P (l ++ [g]) g)).length + 1)
  rw [show ((0 : Nat) : Int) = 0 from rfl, List.drop_zero, List.nil_append] at h0
  rw [h0, h_counts _ _ _ (by omega), Option.bind_some]
  have h1 := given_l1 ((l ++ [g]).filter (keepT XT X.N X.P (l ++ [g]) g)) (l.filter fun x => decide (CV XT X.N X.P l x)) (fun x => decide (CV XT X.N X.P ((l ++ [g]).filter (keepT XT X.N X.P (l ++ [g]) g)) x)) (by omega) (by omega) ((l ++ [g]).filter (keepT XT X.N X.P (l ++ [g]) g)).length 0 [] (by omega) (Nat.zero_le _) k
  rw [show ((0 : Nat) : Int) = 0 from rfl, List.drop_zero, List.nil_append] at h1
  rw [h1, ← given_back XT X.N X.P l g hg, same_s _ _ (by unfold Fits; omega) k (by omega), Option.bind_some, decide_eq_true rfl]
theorem given_pure (hfl : Fits l) : ∃ k, g_Given.f k a0 X.C a2 X.tN X.tP l role g.f0 g.f1 g.f2 g.f3 g.f4 = some true := by
  have hw : h_works.f = some true := rfl
  have jt : ∀ k, 0 < k → g_Given.j0 k role true a0 X.C a2 X.tN X.tP l g.f0 g.f1 g.f2 g.f3 g.f4 = some true := by
    intro k hk
    obtain ⟨k, rfl⟩ : ∃ m, k = m + 1 := ⟨k - 1, by omega⟩
    rw [g_Given.j0, if_pos rfl, hw, Option.bind_some]
  cases hlg : largeP l with
  | true =>
    refine ⟨1, ?_⟩
    unfold g_Given.f
    rw [hw, Option.bind_some, if_pos rfl, h_large l a0 a2 hfl, hlg, Option.bind_some, if_pos rfl]
    exact jt 1 (by omega)
  | false =>
    by_cases e0 : (role.size : Int) > 400
    · refine ⟨1, ?_⟩
      unfold g_Given.f
      rw [hw, Option.bind_some, if_pos rfl, h_large l a0 a2 hfl, hlg, Option.bind_some, if_neg Bool.false_ne_true, if_pos e0]
      exact jt 1 (by omega)
    by_cases e1 : (wrap64 ((g.f0.size : Int) + (g.f1.size : Int))) > 400
    · refine ⟨1, ?_⟩
      unfold g_Given.f
      rw [hw, Option.bind_some, if_pos rfl, h_large l a0 a2 hfl, hlg, Option.bind_some, if_neg Bool.false_ne_true, if_neg e0, if_pos e1]
      exact jt 1 (by omega)
    by_cases e : (g.f2.size : Int) > 400
    · refine ⟨1, ?_⟩
      unfold g_Given.f
      rw [hw, Option.bind_some, if_pos rfl, h_large l a0 a2 hfl, hlg, Option.bind_some, if_neg Bool.false_ne_true, if_neg e0, if_neg e1, decide_eq_true e]
      exact jt 1 (by omega)
    · have hs := (largeP_small hlg).2.2.2
      refine ⟨X.C.length + 1000, ?_⟩
      unfold g_Given.f
      rw [hw, Option.bind_some, if_pos rfl, h_large l a0 a2 hfl, hlg, Option.bind_some, if_neg Bool.false_ne_true, if_neg e0, if_neg e1, decide_eq_false e, show X.C.length + 1000 = (X.C.length + 999) + 1 by omega]
      rw [g_Given.j0, if_neg Bool.false_ne_true, h_state l a0 a2 _ (by omega), Option.bind_some, h_Case_roled.f, Option.bind_some, h_give _ _ l (by omega), Option.bind_some]
      by_cases hz : (giveP XT X.N X.P l role g).2 = 0
      · have hgo := (give_ok XT X.N X.P l g role hz).1
        have ha : (l ++ [g]).length = l.length + 1 := by rw [List.length_append, List.length_singleton]
        have J := given_j1 role g l a0 a2 a0 0 hs hz (X.C.length + 999) (by omega)
        rw [if_pos hz, hgo, h_counts _ _ (l ++ [g]) (by omega), Option.bind_some, if_pos (by rw [List.length_map, ha]; unfold wrap64; omega), if_pos (by omega), if_pos (by rw [List.length_map]; omega), rdOf_nat false _ l.length (by rw [List.length_map]; omega), List.getElem_map, List.getElem_append_right (Nat.le_refl _)]
        have e2 : [g][l.length - l.length]'(by simp) = g := by simp
        rw [e2, if_pos (decide_eq_true (given_counts XT X.N X.P l g role hz)), h_may _ _ (l ++ [g]) (by omega), Option.bind_some, if_pos (decide_eq_true (given_may XT X.N X.P l g role hz false fun h => Bool.noConfusion h))]
        by_cases e3 : g.f4 = true
        · rw [if_pos e3, h_pass _ _ (l ++ [g]) (by omega), Option.bind_some, decide_eq_true (given_may XT X.N X.P l g role hz true fun _ => e3)]
          exact J
        · rw [if_neg e3]
          exact J
      · rw [if_neg hz, give_bad XT X.N X.P l g role hz]
        rfl
end
end Go.Proofs.Yteklimdjlihloaa.G
