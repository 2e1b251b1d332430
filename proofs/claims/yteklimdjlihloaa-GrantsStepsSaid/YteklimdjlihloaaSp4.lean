/- What Give, Take and the comparison of lists of grants come to. Conditions: as each theorem states them. -/
import Derived.Test.YteklimdjlihloaaSp3
import Derived.Test.YteklimdjlihloaaGx9
namespace Go.Proofs.Yteklimdjlihloaa.G
open Go.RowKit Go.Proofs.YteklimdjlihloaaW.PrintWords
open Classical
theorem g43_eq {x y : S43} : x = y ↔ x.f0 = y.f0 ∧ x.f1 = y.f1 ∧ x.f2 = y.f2 ∧ x.f3 = y.f3 ∧ x.f4 = y.f4 := by
  cases x; cases y; simp
theorem g43_beq (a b : S43) : (a.f0.toList == b.f0.toList && (a.f1.toList == b.f1.toList && (a.f2.toList == b.f2.toList && (a.f3 == b.f3 && (a.f4 == b.f4))))) = decide (a = b) := by
  rw [ba_beq, ba_beq, ba_beq]
  by_cases h : a = b
  · subst h; simp
  · rw [decide_eq_false h, ← Bool.not_eq_true]
    intro hh
    simp only [Bool.and_eq_true, decide_eq_true_eq, beq_iff_eq] at hh
    exact h (g43_eq.2 hh)
theorem g43_bne (a b : S43) : (!(a.f0.toList == b.f0.toList) || (!(a.f1.toList == b.f1.toList) || (!(a.f2.toList == b.f2.toList) || (!(a.f3 == b.f3) || (!(a.f4 == b.f4)))))) = !decide (a = b) := by
  rw [← g43_beq]
  simp [Bool.not_and]
theorem index_g (l : List S43) (a : S43) (hl : Fits l) : ∀ (d i : Nat), i + d = l.length →
    ∃ r : Int, (∀ k, d < k → api_Grant_46.l0 k l (l.length : Int) (i : Int) a.f0 a.f1 a.f2 a.f3 a.f4 = some r) ∧ (0 ≤ r ↔ a ∈ l.drop i)
  | 0, i, h => by
    refine ⟨-1, fun k' hk' => ?_, ?_⟩
    · obtain ⟨k', rfl⟩ : ∃ m, k' = m + 1 := ⟨k' - 1, by omega⟩
      simp only [api_Grant_46.l0]
      rw [if_neg (by omega)]
    · rw [List.drop_eq_nil_of_le (by omega)]; simp
  | d + 1, i, h => by
    have hi : i < l.length := by omega
    by_cases e : a = l[i]
    · refine ⟨i, fun k' hk' => ?_, ⟨fun _ => by rw [List.drop_eq_getElem_cons hi, e]; exact List.mem_cons_self, fun _ => by omega⟩⟩
      obtain ⟨k', rfl⟩ : ∃ m, k' = m + 1 := ⟨k' - 1, by omega⟩
      simp only [api_Grant_46.l0]
      rw [if_pos (by omega), if_pos (by omega), if_pos (by omega), rd43_nat _ _ hi, g43_beq, if_pos (decide_eq_true e)]
    · obtain ⟨r, hr, hm⟩ := index_g l a hl d (i + 1) (by omega)
      refine ⟨r, fun k' hk' => ?_, by rw [hm, List.drop_eq_getElem_cons hi, List.mem_cons]; exact ⟨Or.inr, fun h => h.resolve_left e⟩⟩
      obtain ⟨k', rfl⟩ : ∃ m, k' = m + 1 := ⟨k' - 1, by omega⟩
      simp only [api_Grant_46.l0]
      rw [if_pos (by omega), if_pos (by omega), if_pos (by omega), rd43_nat _ _ hi, g43_beq, if_neg (by rw [decide_eq_false e]; simp), wrapN i (by unfold Fits at hl; omega)]
      exact hr k' (by omega)
theorem contains_g (l : List S43) (a : S43) (hl : Fits l) : ∀ k, l.length < k → api_Grant_34.f k l a.f0 a.f1 a.f2 a.f3 a.f4 = some (decide (a ∈ l)) := by
  intro k hk
  obtain ⟨r, hr, hm⟩ := index_g l a hl l.length 0 (by omega)
  unfold api_Grant_34.f api_Grant_46.f
  rw [show (0 : Int) = ((0 : Nat) : Int) from rfl, hr k hk]
  simp only [Option.bind_some]
  rw [List.drop_zero] at hm
  congr 1
  exact decide_eq_decide.2 hm
section
variable (T : List S71) (N : List ByteArray) (P : List S66)
/-- What Give comes to. -/
noncomputable def giveP (l : List S43) (role : ByteArray) (g : S43) : List S43 × Int :=
  if ¬ (∃ t, FindP T g.f2 = some t) ∨ g.f1 ∉ N then ([], 5)
  else if g.f3 = 0 ∨ Go.bits .andNot .u8 g.f3 31 ≠ 0 ∨ g.f0 ≠ role then ([], 4)
  else if ¬ MayP T N P l true role g.f2 g.f3 then ([], 67)
  else if g ∈ l then ([], 6)
  else (l ++ [g], 0)
/-- What is left without a grant, each with whether it counted. -/
noncomputable def leftZ (l : List S43) (g : S43) : List (S43 × Bool) := (l.zip (countsP T N P l)).filter fun x => decide (x.1 ≠ g)
/-- The same, each with whether it counts now too. -/
noncomputable def nowZ (l : List S43) (g : S43) : List ((S43 × Bool) × Bool) := (leftZ T N P l g).zip (countsP T N P ((leftZ T N P l g).map (·.1)))
/-- What Take comes to. -/
noncomputable def takeP (l : List S43) (role : ByteArray) (g : S43) (all : Bool) : List S43 × Int :=
  if ¬ (∃ t, FindP T g.f2 = some t) ∨ g ∉ l then ([], 5)
  else if g.f0 ≠ role ∧ ¬ AllP T N P role g.f2 then ([], 67)
  else if all = false ∧ (∃ x ∈ nowZ T N P l g, x.2 = false ∧ x.1.2 = true) then ([], 68)
  else (((nowZ T N P l g).filter fun x => x.2 || !x.1.2).map (·.1.1), 0)
variable (hN : N.length ≤ 8796093022208) (hP : Fits P)
variable (l : List S43) (hl : l.length < 1000000000000) (a0 a2 : Int)
include hN hP hl
theorem give_s (role : ByteArray) (g : S43) : ∀ k, kCnt N P l + l.length + 4 ≤ k → grants_Give.f k a0 T a2 N P l role g.f0 g.f1 g.f2 g.f3 g.f4 = some (giveP T N P l role g) := by
  intro k hk
  have hle := kIs_le N P
  have hk0 : kCnt N P l = (l.length + 1) * kPass N P l + l.length + kIs N P + 10 := rfl
  obtain ⟨k, rfl⟩ : ∃ m, k = m + 2 := ⟨k - 2, by omega⟩
  have hF : Fits l := by unfold Fits; omega
  unfold grants_Give.f
  rw [find_s]
  simp only [Option.bind_some]
  cases hf : FindP T g.f2 with
  | none =>
    simp only [Bool.false_eq_true, if_false, grants_Give.j0, if_true]
    unfold giveP
    rw [if_pos (Or.inl (by rw [hf]; rintro ⟨t, ht⟩; cases ht))]
  | some t =>
    simp only [if_true]
    rw [has_s N P _ (by unfold Fits; omega) (k + 2) (by omega)]
    simp only [Option.bind_some, grants_Give.j0]
    by_cases h1 : g.f1 ∈ N
    · have hn : ¬ (¬ (∃ t, FindP T g.f2 = some t) ∨ g.f1 ∉ N) := fun h => h.elim (fun h => h ⟨t, hf⟩) (fun h => h h1)
      rw [decide_eq_true h1, if_neg (by simp)]
      have J4 : (g.f3 = 0 ∨ Go.bits .andNot .u8 g.f3 31 ≠ 0 ∨ g.f0 ≠ role) → (some (([] : List S43), (4 : Int))) = some (giveP T N P l role g) := by
        intro h; unfold giveP; rw [if_neg hn, if_pos h]
      by_cases h2 : g.f3 = 0
      · rw [if_pos h2]
        simp only [grants_Give.j1, if_true]
        exact J4 (Or.inl h2)
      · rw [if_neg h2]
        simp only [grants_Full.f, Option.bind_some]
        by_cases h3 : Go.bits .andNot .u8 g.f3 31 = 0
        · rw [if_pos h3]
          simp only [grants_Give.j1]
          by_cases h4 : g.f0 = role
          · rw [if_neg (by rw [h4]; simp), Pass_s T N P hN hP l hF a0 a2 (by omega) role g.f2 g.f3 k (by omega)]
            simp only [Option.bind_some]
            have hn2 : ¬ (g.f3 = 0 ∨ Go.bits .andNot .u8 g.f3 31 ≠ 0 ∨ g.f0 ≠ role) := fun h => h.elim h2 fun h => h.elim (fun h => h h3) (fun h => h h4)
            by_cases h5 : MayP T N P l true role g.f2 g.f3
            · rw [if_pos (decide_eq_true h5), contains_g l g hF k (by omega)]
              simp only [Option.bind_some]
              by_cases h6 : g ∈ l
              · rw [if_pos (decide_eq_true h6)]
                unfold giveP
                rw [if_neg hn, if_neg hn2, if_neg (fun h => h h5), if_pos h6]
              · rw [if_neg (by rw [decide_eq_false h6]; simp)]
                simp only [api_Grant_35.f]
                rw [if_pos (by omega)]
                simp only [Option.bind_some, List.length_singleton]
                rw [if_pos (by omega)]
                unfold giveP
                rw [if_neg hn, if_neg hn2, if_neg (fun h => h h5), if_neg h6]
            · rw [if_neg (by rw [decide_eq_false h5]; simp)]
              unfold giveP
              rw [if_neg hn, if_neg hn2, if_pos h5]
          · rw [if_pos (by simpa using fun h => h4 (ba_eq.1 h))]
            exact J4 (Or.inr (Or.inr h4))
        · rw [if_neg h3]
          simp only [grants_Give.j1, if_true]
          exact J4 (Or.inr (Or.inl h3))
    · rw [decide_eq_false h1, if_pos (by simp)]
      unfold giveP
      rw [if_pos (Or.inr h1)]
/-- The end of Take: what is left, each with whether it counted, against what counts now. -/
noncomputable def takeEnd (all : Bool) (Z : List ((S43 × Bool) × Bool)) (out : List S43) : List S43 × Int :=
  if all = false ∧ (∃ x ∈ Z, x.2 = false ∧ x.1.2 = true) then ([], 68) else (out ++ (Z.filter fun x => x.2 || !x.1.2).map (·.1.1), 0)
omit hN hP hl in
theorem take_l1 (all : Bool) (Y : List (S43 × Bool)) (cnt : List Bool) (hY : Y.length < 1000000000000) (hc : cnt.length = Y.length) : ∀ (d i : Nat) (out : List S43), i + d = Y.length → out.length ≤ i →
    ∀ k, 2 * d + 1 ≤ k → grants_Take.l1 k all (Y.map (·.1)) (Y.map (·.2)) out cnt (cnt.length : Int) (i : Int) = some (takeEnd all ((Y.zip cnt).drop i) out)
  | 0, i, out, h, ho, k, hk => by
    obtain ⟨k, rfl⟩ : ∃ m, k = m + 1 := ⟨k - 1, by omega⟩
    simp only [grants_Take.l1]
    rw [if_neg (by omega), List.drop_eq_nil_of_le (by rw [List.length_zip]; omega)]
    simp [takeEnd]
  | d + 1, i, out, h, ho, k, hk => by
    obtain ⟨k, rfl⟩ : ∃ m, k = m + 2 := ⟨k - 2, by omega⟩
    have hi : i < Y.length := by omega
    have hic : i < cnt.length := by omega
    have hz : i < (Y.zip cnt).length := by rw [List.length_zip]; omega
    have hd : (Y.zip cnt).drop i = (Y[i], cnt[i]) :: (Y.zip cnt).drop (i + 1) := by rw [List.drop_eq_getElem_cons hz, List.getElem_zip]
    have go : ∀ out', out'.length ≤ i + 1 → grants_Take.l1 k all (Y.map (·.1)) (Y.map (·.2)) out' cnt (cnt.length : Int) (wrap64 ((i : Int) + 1)) = some (takeEnd all ((Y.zip cnt).drop (i + 1)) out') := by
      intro out' ho'
      rw [wrapN i (by omega)]
      exact take_l1 all Y cnt hY hc d (i + 1) out' (by omega) ho' k (by omega)
    have keep : (cnt[i] || !Y[i].2) = true → grants_Take.j4 (k + 1) all (Y.map (·.1)) (Y.map (·.2)) out (i : Int) cnt (cnt.length : Int) (i : Int) true = some (takeEnd all ((Y.zip cnt).drop i) out) := by
      intro hk1
      have hm : i < (Y.map (·.1)).length := by rw [List.length_map]; exact hi
      have hg : (Y.map (·.1))[i] = Y[i].1 := List.getElem_map ..
      simp only [grants_Take.j4, if_true]
      rw [if_pos (by omega), if_pos (by rw [List.length_map]; omega), rd43_nat _ i hm, hg]
      simp only [Option.bind_some, List.length_singleton]
      rw [if_pos (by omega), go _ (by rw [List.length_append, List.length_singleton]; omega), hd]
      refine congrArg some ?_
      unfold takeEnd
      have e : (∃ x ∈ (Y[i], cnt[i]) :: (Y.zip cnt).drop (i + 1), x.2 = false ∧ x.1.2 = true) ↔ ∃ x ∈ (Y.zip cnt).drop (i + 1), x.2 = false ∧ x.1.2 = true := by
        constructor
        · rintro ⟨x, hx, h1, h2⟩
          rcases List.mem_cons.1 hx with rfl | hx
          · rcases (by simpa using hk1 : cnt[i] = true ∨ Y[i].2 = false) with q | q
            · rw [show cnt[i] = false from h1] at q; cases q
            · rw [show Y[i].2 = true from h2] at q; cases q
          · exact ⟨x, hx, h1, h2⟩
        · rintro ⟨x, hx, h1⟩; exact ⟨x, List.mem_cons_of_mem _ hx, h1⟩
      rw [List.filter_cons_of_pos (by simpa using hk1)]
      simp only [e, List.map_cons, List.append_assoc, List.singleton_append]
    rw [grants_Take.l1, if_pos (by omega), if_pos (by omega), if_pos (by omega), rdOf_nat false cnt i hic]
    by_cases e1 : cnt[i] = true
    · rw [if_pos e1]
      exact keep (by rw [e1]; rfl)
    · rw [if_neg e1, if_pos (by rw [List.length_map]; omega), rdOf_nat false (Y.map (·.2)) i (by rw [List.length_map]; exact hi), List.getElem_map]
      replace e1 := Bool.eq_false_iff.mpr e1
      by_cases e2 : Y[i].2 = true
      · rw [e2]
        simp only [Bool.not_true, grants_Take.j4, Bool.false_eq_true, if_false]
        by_cases e3 : all = true
        · rw [if_pos e3, go out (by omega), hd]
          unfold takeEnd
          rw [if_neg (by rw [e3]; simp), if_neg (by rw [e3]; simp), List.filter_cons_of_neg (by simp [e1, e2])]
        · rw [if_neg e3, hd]
          unfold takeEnd
          rw [if_pos ⟨Bool.eq_false_iff.mpr e3, (Y[i], cnt[i]), List.mem_cons_self, e1, e2⟩]
      · rw [Bool.eq_false_iff.mpr e2]
        exact keep (by rw [Bool.eq_false_iff.mpr e2]; simp)
omit hN hP in
theorem take_l0 (all : Bool) (cnt : List Bool) (hc : cnt.length = l.length) (g : S43) : ∀ (d i : Nat) (Y : List (S43 × Bool)), i + d = l.length → Y.length ≤ i →
    ∀ k, grants_Take.l0 (k + d + 1) all cnt (Y.map (·.1)) (Y.map (·.2)) l (l.length : Int) (i : Int) a0 T a2 N P g.f0 g.f1 g.f2 g.f3 g.f4 =
      (grants_Counts.f k a0 T a2 N P ((Y ++ ((l.zip cnt).drop i).filter fun x => decide (x.1 ≠ g)).map (·.1))).bind fun t => grants_Take.l1 k all ((Y ++ ((l.zip cnt).drop i).filter fun x => decide (x.1 ≠ g)).map (·.1)) ((Y ++ ((l.zip cnt).drop i).filter fun x => decide (x.1 ≠ g)).map (·.2)) [] t (t.length : Int) 0
  | 0, i, Y, h, hy, k => by
    simp only [Nat.add_zero, grants_Take.l0]
    rw [if_neg (by omega), List.drop_eq_nil_of_le (by rw [List.length_zip]; omega)]
    simp
  | d + 1, i, Y, h, hy, k => by
    have hi : i < l.length := by omega
    have hic : i < cnt.length := by omega
    have hz : i < (l.zip cnt).length := by rw [List.length_zip]; omega
    have hd : (l.zip cnt).drop i = (l[i], cnt[i]) :: (l.zip cnt).drop (i + 1) := by rw [List.drop_eq_getElem_cons hz, List.getElem_zip]
    rw [show k + (d + 1) + 1 = (k + d + 1) + 1 by omega, grants_Take.l0, if_pos (by omega), if_pos (by omega), if_pos (by omega), rd43_nat l i hi, g43_bne, hd]
    by_cases e : l[i] = g
    · rw [if_neg (by rw [decide_eq_true e]; simp), wrapN i (by omega), List.filter_cons_of_neg (by simpa using e)]
      exact take_l0 all cnt hc g d (i + 1) Y (by omega) (by omega) k
    · rw [if_pos (by rw [decide_eq_false e]; rfl), List.filter_cons_of_pos (by simpa using e)]
      simp only [Option.bind_some, List.length_singleton, List.length_map]
      rw [if_pos (by omega), if_pos (by omega), if_pos (by omega), wrapN i (by omega), rdOf_nat false cnt i hic]
      have := take_l0 all cnt hc g d (i + 1) (Y ++ [(l[i], cnt[i])]) (by omega) (by rw [List.length_append, List.length_singleton]; omega) k
      rw [List.map_append, List.map_append, List.append_assoc] at this
      simpa using this
theorem take_s (role : ByteArray) (g : S43) (all : Bool) : ∀ k, 2 * kCnt N P l + 4 * l.length + 10 ≤ k → grants_Take.f k a0 T a2 N P l role g.f0 g.f1 g.f2 g.f3 g.f4 all = some (takeP T N P l role g all) := by
  intro k hk
  have hle := kIs_le N P
  have hk0 : kCnt N P l = (l.length + 1) * kPass N P l + l.length + kIs N P + 10 := rfl
  have hF : Fits l := by unfold Fits; omega
  obtain ⟨k, rfl⟩ : ∃ m, k = m + 2 := ⟨k - 2, by omega⟩
  unfold grants_Take.f
  rw [find_s]
  simp only [Option.bind_some]
  have ZL : (leftZ T N P l g).length ≤ l.length := by
    unfold leftZ
    refine Nat.le_trans (List.length_filter_le _ _) ?_
    rw [List.length_zip]; omega
  have mono : ∀ m m' : Nat, m ≤ m' → m ≤ l.length → m' ≤ l.length → (m + 1) * (3 * m + kIs N P + N.length + 10) ≤ (m' + 1) * (3 * m' + kIs N P + N.length + 10) := fun m m' h _ _ => Nat.mul_le_mul (by omega) (by omega)
  have J1 : grants_Take.j1 (k + 1) l all a0 T a2 N P g.f0 g.f1 g.f2 g.f3 g.f4 = some (takeEnd all (nowZ T N P l g) []) ∧ grants_Take.j1 k l all a0 T a2 N P g.f0 g.f1 g.f2 g.f3 g.f4 = some (takeEnd all (nowZ T N P l g) []) := by
    have one : ∀ k', 2 * kCnt N P l + 4 * l.length + 8 ≤ k' → grants_Take.j1 k' l all a0 T a2 N P g.f0 g.f1 g.f2 g.f3 g.f4 = some (takeEnd all (nowZ T N P l g) []) := by
      intro k' hk'
      obtain ⟨k', rfl⟩ : ∃ m, k' = m + l.length + 2 := ⟨k' - l.length - 2, by omega⟩
      rw [show k' + l.length + 2 = (k' + l.length + 1) + 1 by omega]
      simp only [grants_Take.j1]
      rw [Counts_s T N P hN hP l hF a0 a2 (by omega) (k' + l.length + 1) (by omega)]
      simp only [Option.bind_some]
      have := take_l0 T N P l hl a0 a2 all (countsP T N P l) (countsP_length T N P l) g l.length 0 [] (by omega) (Nat.zero_le _) k'
      simp only [List.map_nil, List.drop_zero, List.nil_append] at this
      rw [show ((0 : Nat) : Int) = 0 from rfl] at this
      rw [this]
      have hcn : kCnt N P ((leftZ T N P l g).map (·.1)) ≤ kCnt N P l := by
        unfold kCnt kPass
        rw [List.length_map]
        have := mono (leftZ T N P l g).length l.length ZL ZL (Nat.le_refl _)
        omega
      have hfl : Fits ((leftZ T N P l g).map (·.1)) := by unfold Fits; rw [List.length_map]; omega
      have hcl : (countsP T N P ((leftZ T N P l g).map (·.1))).length = (leftZ T N P l g).length := by rw [countsP_length, List.length_map]
      show (grants_Counts.f k' a0 T a2 N P ((leftZ T N P l g).map (·.1))).bind (fun t => grants_Take.l1 k' all ((leftZ T N P l g).map (·.1)) ((leftZ T N P l g).map (·.2)) [] t (t.length : Int) 0) = _
      rw [Counts_s T N P hN hP _ hfl a0 a2 (by rw [List.length_map]; omega) k' (by omega)]
      simp only [Option.bind_some]
      have := take_l1 all (leftZ T N P l g) (countsP T N P ((leftZ T N P l g).map (·.1))) (by omega) hcl (leftZ T N P l g).length 0 [] (by omega) (Nat.zero_le _) k' (by omega)
      rw [List.drop_zero] at this
      exact this
    exact ⟨one _ (by omega), one _ (by omega)⟩
  have tp : ∀ (_ : ∃ t, FindP T g.f2 = some t) (_ : g ∈ l) (_ : ¬ (g.f0 ≠ role ∧ ¬ AllP T N P role g.f2)), takeP T N P l role g all = takeEnd all (nowZ T N P l g) [] := by
    intro h1 h2 h3
    unfold takeP takeEnd
    rw [if_neg (fun h => h.elim (fun h => h h1) (fun h => h h2)), if_neg h3, List.nil_append]
  cases hf : FindP T g.f2 with
  | none =>
    simp only [Bool.false_eq_true, if_false, grants_Take.j0, if_true]
    unfold takeP
    rw [if_pos (Or.inl (by rw [hf]; rintro ⟨t, ht⟩; cases ht))]
  | some t =>
    simp only [if_true]
    rw [contains_g l g hF (k + 2) (by omega)]
    simp only [Option.bind_some, grants_Take.j0]
    by_cases h1 : g ∈ l
    · rw [decide_eq_true h1, if_neg (by simp)]
      by_cases h2 : g.f0 = role
      · rw [if_pos (by rw [h2]), J1.1, tp ⟨t, hf⟩ h1 (fun h => h.1 h2)]
      · rw [if_neg (fun h => h2 (ba_eq.1 h)), all_s T N P hN hP role g.f2 a0 a2 (k + 1) (by omega)]
        simp only [Option.bind_some]
        by_cases h3 : AllP T N P role g.f2
        · rw [if_pos (decide_eq_true h3), J1.1, tp ⟨t, hf⟩ h1 (fun h => h.2 h3)]
        · rw [if_neg (by rw [decide_eq_false h3]; simp)]
          unfold takeP
          rw [if_neg (fun h => h.elim (fun h => h ⟨t, hf⟩) (fun h => h h1)), if_pos ⟨h2, h3⟩]
    · rw [decide_eq_false h1, if_pos (by simp)]
      unfold takeP
      rw [if_pos (Or.inr h1)]
end
end Go.Proofs.Yteklimdjlihloaa.G
