/- GrantsMore, as a plain statement: with more grants none counts no more, in whatever row they stand, and nobody may less. Conditions: as each theorem states them. -/
import Derived.Test.YteklimdjlihloaaSp7
import Derived.Test.YteklimdjlihloaaLMore
namespace Go.Proofs.Yteklimdjlihloaa.G
open Go.RowKit Go.Proofs.YteklimdjlihloaaW.PrintWords
open Classical
theorem may_sub (T : List S71) (N : List ByteArray) (P : List S66) {l l' : List S43} (h : ∀ x ∈ l, x ∈ l') {q : Bool} {role table : ByteArray} {rights : Int} (hm : MayP T N P l q role table rights) : MayP T N P l' q role table rights := by
  rw [may_iff] at hm ⊢
  exact ⟨hm.1, hm.2.1, hm.2.2.imp id (CovV.mono N P fun g => CV.sub T N P h)⟩
theorem pass_may (T : List S71) (N : List ByteArray) (P : List S66) {l : List S43} {role table : ByteArray} {rights : Int} (hm : MayP T N P l true role table rights) : MayP T N P l false role table rights := by
  rw [may_iff] at hm ⊢
  refine ⟨hm.1, hm.2.1, hm.2.2.imp id fun hc b hb hr => ?_⟩
  obtain ⟨h, h1, _, h2⟩ := hc b hb hr
  exact ⟨h, h1, fun e => Bool.noConfusion e, h2⟩
section
variable [Inhabited CtxS] (role table : ByteArray) (rights : Int) (l more : List S43) (hl : l.length ≤ 30) (hm : more.length ≤ 30) (a0 a2 s0 s2 : Int)
include hl hm
theorem more_l2 : ∀ (d i : Nat), i + d = (l ++ more).length → ∀ k, d < k →
    g_More.l2 k role table rights (l ++ more) ((l ++ more).map fun g => decide (CV XT X.N X.P (l ++ more) g)) ((l ++ more).reverse.map fun g => decide (CV XT X.N X.P (l ++ more).reverse g)) (i : Int) a0 X.C a2 X.tN X.tP l s0 XT s2 X.tN X.tP = some true
  | 0, i, h, k, hk => by
    obtain ⟨k, rfl⟩ : ∃ m, k = m + 1 := ⟨k - 1, by omega⟩
    have ha : (l ++ more).length = l.length + more.length := List.length_append
    simp only [g_More.l2]
    rw [if_neg (by omega), h_may _ _ _ (by omega), h_may _ _ _ (by omega), h_pass _ _ _ (by omega), h_pass _ _ _ (by omega)]
    simp only [Option.bind_some]
    have s1 : MayP XT X.N X.P l false role table rights → MayP XT X.N X.P (l ++ more) false role table rights := may_sub _ _ _ fun x hx => List.mem_append_left _ hx
    have s3 : MayP XT X.N X.P l true role table rights → MayP XT X.N X.P (l ++ more) true role table rights := may_sub _ _ _ fun x hx => List.mem_append_left _ hx
    have s4 : MayP XT X.N X.P (l ++ more) true role table rights → MayP XT X.N X.P (l ++ more) false role table rights := pass_may _ _ _
    by_cases e1 : MayP XT X.N X.P l true role table rights
    · simp [e1, s3 e1, s4 (s3 e1)]
    · by_cases e2 : MayP XT X.N X.P l false role table rights
      · simp [e1, e2, s1 e2]
      · simp [e1, e2]
  | d + 1, i, h, k, hk => by
    have ha : (l ++ more).length = l.length + more.length := List.length_append
    obtain ⟨k, rfl⟩ : ∃ m, k = m + 1 := ⟨k - 1, by omega⟩
    have e1 : wrap64 (wrap64 (((l ++ more).length : Int) - 1) - (i : Int)) = (((l ++ more).length - 1 - i : Nat) : Int) := by unfold wrap64; omega
    simp only [g_More.l2]
    rw [if_pos (by omega), if_pos (by omega), if_pos (by rw [List.length_map]; omega), e1, if_pos (by omega), if_pos (by rw [List.length_map, List.length_reverse]; omega), rdOf_nat false _ i (by rw [List.length_map]; omega), rdOf_nat false _ ((l ++ more).length - 1 - i) (by rw [List.length_map, List.length_reverse]; omega), List.getElem_map, List.getElem_map, List.getElem_reverse]
    have e2 : (l ++ more)[(l ++ more).length - 1 - ((l ++ more).length - 1 - i)]'(by omega) = (l ++ more)[i]'(by omega) := by congr 1; omega
    rw [e2, if_neg, wrapN i (by omega)]
    · exact more_l2 d (i + 1) (by omega) k (by omega)
    · have e3 : decide (CV XT X.N X.P (l ++ more) (l ++ more)[i]) = decide (CV XT X.N X.P (l ++ more).reverse (l ++ more)[i]) := decide_eq_decide.2 (CV.same XT X.N X.P (fun x => List.mem_reverse.symm) _)
      rw [e3]
      simp
theorem more_l1 : ∀ (i : Nat), i ≤ (l ++ more).length → ∀ k, i + (l ++ more).length + 2 < k →
    g_More.l1 k role table rights (l ++ more) ((l ++ more).map fun g => decide (CV XT X.N X.P (l ++ more) g)) ((l ++ more).drop i).reverse ((i : Int) - 1) a0 X.C a2 X.tN X.tP l s0 XT s2 X.tN X.tP = some true
  | 0, h, k, hk => by
    obtain ⟨k, rfl⟩ : ∃ m, k = m + 1 := ⟨k - 1, by omega⟩
    have ha : (l ++ more).length = l.length + more.length := List.length_append
    simp only [g_More.l1]
    rw [if_neg (by omega), List.drop_zero, h_counts _ _ _ (by rw [List.length_reverse]; omega)]
    simp only [Option.bind_some]
    exact more_l2 role table rights l more hl hm a0 a2 s0 s2 (l ++ more).length 0 (by omega) k (by omega)
  | i + 1, h, k, hk => by
    obtain ⟨k, rfl⟩ : ∃ m, k = m + 1 := ⟨k - 1, by omega⟩
    have ha : (l ++ more).length = l.length + more.length := List.length_append
    have hi : i < (l ++ more).length := by omega
    simp only [g_More.l1]
    rw [show (((i + 1 : Nat) : Int) - 1) = (i : Int) by omega, if_pos (by omega), if_pos (by omega), if_pos (by omega), if_pos (by rw [List.length_reverse, List.length_drop]; omega), rd43_nat _ i hi, show wrap64 ((i : Int) - 1) = (i : Int) - 1 by unfold wrap64; omega]
    have := more_l1 i (by omega) k (by omega)
    have e : (l ++ more).drop i = (l ++ more)[i] :: (l ++ more).drop (i + 1) := List.drop_eq_getElem_cons hi
    rw [e, List.reverse_cons] at this
    exact this
theorem more_l0 : ∀ (d i : Nat), i + d = l.length → ∀ k, d + 2 * (l ++ more).length + 3 < k →
    g_More.l0 k role table rights (l ++ more) (l.map fun g => decide (CV XT X.N X.P l g)) ((l ++ more).map fun g => decide (CV XT X.N X.P (l ++ more) g)) (i : Int) a0 X.C a2 X.tN X.tP l s0 XT s2 X.tN X.tP = some true
  | 0, i, h, k, hk => by
    obtain ⟨k, rfl⟩ : ∃ m, k = m + 1 := ⟨k - 1, by omega⟩
    have ha : (l ++ more).length = l.length + more.length := List.length_append
    simp only [g_More.l0]
    rw [if_neg (by rw [List.length_map]; omega), show wrap64 (((l ++ more).length : Int) - 1) = ((l ++ more).length : Int) - 1 by unfold wrap64; omega]
    have := more_l1 role table rights l more hl hm a0 a2 s0 s2 (l ++ more).length (Nat.le_refl _) k (by omega)
    rw [List.drop_length, List.reverse_nil] at this
    exact this
  | d + 1, i, h, k, hk => by
    obtain ⟨k, rfl⟩ : ∃ m, k = m + 1 := ⟨k - 1, by omega⟩
    have ha : (l ++ more).length = l.length + more.length := List.length_append
    have hi : i < l.length := by omega
    have next : g_More.l0 k role table rights (l ++ more) (l.map fun g => decide (CV XT X.N X.P l g)) ((l ++ more).map fun g => decide (CV XT X.N X.P (l ++ more) g)) (wrap64 ((i : Int) + 1)) a0 X.C a2 X.tN X.tP l s0 XT s2 X.tN X.tP = some true := by
      rw [wrapN i (by omega)]
      exact more_l0 d (i + 1) (by omega) k (by omega)
    simp only [g_More.l0]
    rw [if_pos (by rw [List.length_map]; omega), if_pos (by omega), rdOf_nat false _ i (by rw [List.length_map]; omega), List.getElem_map]
    by_cases e : CV XT X.N X.P l l[i]
    · rw [if_pos (decide_eq_true e), if_pos (by rw [List.length_map]; omega), rdOf_nat false _ i (by rw [List.length_map]; omega), List.getElem_map, List.getElem_append_left hi, if_pos (decide_eq_true (CV.sub XT X.N X.P (fun x hx => List.mem_append_left _ hx) e))]
      exact next
    · rw [if_neg (by rw [decide_eq_false e]; simp)]
      exact next
omit hl hm in
theorem more_pure (hfl : Fits l) (hfm : Fits more) : ∃ k, g_More.f k a0 X.C a2 X.tN X.tP l more role table rights = some true := by
  have jt : ∀ k, 0 < k → g_More.j0 k more role table rights true a0 X.C a2 X.tN X.tP l = some true := by
    intro k hk
    obtain ⟨k, rfl⟩ : ∃ m, k = m + 1 := ⟨k - 1, by omega⟩
    simp [g_More.j0, h_works.f]
  unfold g_More.f
  simp only [h_works.f, Option.bind_some, if_true]
  rw [h_large l a0 a2 hfl]
  simp only [Option.bind_some]
  cases hlg : largeP l with
  | true => exact ⟨1, by simp only [if_true]; exact jt 1 (by omega)⟩
  | false =>
    simp only [Bool.false_eq_true, if_false]
    rw [h_large more a0 a2 hfm]
    simp only [Option.bind_some]
    cases hlg2 : largeP more with
    | true => exact ⟨1, by simp only [if_true]; exact jt 1 (by omega)⟩
    | false =>
      simp only [Bool.false_eq_true, if_false]
      by_cases e : (wrap64 ((role.size : Int) + (table.size : Int))) > 400
      · exact ⟨1, by rw [decide_eq_true e]; exact jt 1 (by omega)⟩
      · have hs := (largeP_small hlg).2.2.2
        have hs2 := (largeP_small hlg2).2.2.2
        have ha : (l ++ more).length = l.length + more.length := List.length_append
        refine ⟨X.C.length + 1000, ?_⟩
        rw [decide_eq_false e, show X.C.length + 1000 = (X.C.length + 999) + 1 by omega]
        simp only [g_More.j0, Bool.false_eq_true, if_false]
        rw [h_state l a0 a2 _ (by omega)]
        simp only [Option.bind_some, h_Case_roled.f, List.nil_append, List.length_nil]
        rw [if_pos (by omega), if_pos (by omega), h_counts _ _ l (by omega)]
        simp only [Option.bind_some]
        rw [h_counts _ _ (l ++ more) (by omega)]
        simp only [Option.bind_some]
        exact more_l0 role table rights l more hs hs2 a0 a2 a0 0 l.length 0 (by omega) _ (by omega)
end
end Go.Proofs.Yteklimdjlihloaa.G
