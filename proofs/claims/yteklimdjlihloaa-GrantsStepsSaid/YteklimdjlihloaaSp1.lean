/- What Has, Is, Find, All and formed come to, told by plain propositions: membership, a road of memberships, the first table of a name. Conditions: as each theorem states them. -/
import Derived.Test.YteklimdjlihloaaGx10
namespace Go.Proofs.Yteklimdjlihloaa.G
open Go.RowKit Go.Proofs.YteklimdjlihloaaW.PrintWords
open Classical
theorem ba_eq {a b : ByteArray} : a.toList = b.toList ↔ a = b := by
  refine ⟨fun h => ?_, fun h => h ▸ rfl⟩
  rw [ByteArray.toList_eq, ByteArray.toList_eq] at h
  cases a; cases b; exact congrArg ByteArray.mk (Array.toList_inj.1 h)
theorem ba_beq (a b : ByteArray) : (a.toList == b.toList) = decide (a = b) := by
  by_cases h : a = b
  · subst h; simp
  · rw [decide_eq_false h]; exact beq_eq_false_iff_ne.2 fun e => h (ba_eq.1 e)
theorem wrapN (n : Nat) (h : n < 9223372036854775807) : wrap64 ((n : Int) + 1) = ((n + 1 : Nat) : Int) := by unfold wrap64; omega
theorem rdOf_nat {α : Type} (d : α) (l : List α) (i : Nat) (h : i < l.length) : rdOf d l (i : Int) = l[i] := by
  unfold rdOf
  rw [Int.toNat_natCast, List.getD_eq_getElem?_getD, List.getElem?_eq_getElem h]
  rfl
theorem rd43_nat (l : List S43) (i : Nat) (h : i < l.length) : rd_T43 l (i : Int) = l[i] := rdOf_nat z43 l i h
theorem rd66_nat (l : List S66) (i : Nat) (h : i < l.length) : rd_T66 l (i : Int) = l[i] := rdOf_nat z66 l i h
theorem rd71_nat (l : List S71) (i : Nat) (h : i < l.length) : rd_T71 l (i : Int) = l[i] := rdOf_nat z71 l i h
/-- How long a list may be that lies in memory. -/
abbrev Fits {α : Type} (l : List α) : Prop := l.length < 4611686018427387904
/-! ### Index, Contains, Has -/
theorem index_s (l : List ByteArray) (a : ByteArray) (hl : Fits l) : ∀ (d i k : Nat), i + d = l.length → d < k →
    ∃ r : Int, (∀ k', k ≤ k' → slices_Index_string_string.l0 k' l a (l.length : Int) (i : Int) = some r) ∧ (0 ≤ r ↔ a ∈ l.drop i)
  | 0, i, k, h, hk => by
    refine ⟨-1, fun k' hk' => ?_, ?_⟩
    · obtain ⟨k', rfl⟩ : ∃ m, k' = m + 1 := ⟨k' - 1, by omega⟩
      simp only [slices_Index_string_string.l0]
      rw [if_neg (by omega)]
    · rw [List.drop_eq_nil_of_le (by omega)]; simp
  | d + 1, i, k, h, hk => by
    have hi : i < l.length := by omega
    by_cases e : a = l[i]
    · refine ⟨i, fun k' hk' => ?_, ⟨fun _ => by rw [List.drop_eq_getElem_cons hi, e]; exact List.mem_cons_self, fun _ => by omega⟩⟩
      obtain ⟨k', rfl⟩ : ∃ m, k' = m + 1 := ⟨k' - 1, by omega⟩
      simp only [slices_Index_string_string.l0]
      rw [if_pos (by omega), if_pos (by omega), if_pos (by omega), rdOf_nat _ _ _ hi, if_pos (by rw [e])]
    · obtain ⟨r, hr, hm⟩ := index_s l a hl d (i + 1) (k - 1) (by omega) (by omega)
      refine ⟨r, fun k' hk' => ?_, by rw [hm, List.drop_eq_getElem_cons hi, List.mem_cons]; exact ⟨Or.inr, fun h => h.resolve_left e⟩⟩
      obtain ⟨k', rfl⟩ : ∃ m, k' = m + 1 := ⟨k' - 1, by omega⟩
      simp only [slices_Index_string_string.l0]
      rw [if_pos (by omega), if_pos (by omega), if_pos (by omega), rdOf_nat _ _ _ hi, if_neg (fun h => e (ba_eq.1 h)), wrapN i (by unfold Fits at hl; omega)]
      exact hr k' (by omega)
theorem contains_s (l : List ByteArray) (a : ByteArray) (hl : Fits l) : ∀ k, l.length < k → slices_Contains_string_string.f k l a = some (decide (a ∈ l)) := by
  intro k hk
  obtain ⟨r, hr, hm⟩ := index_s l a hl l.length 0 k (by omega) hk
  unfold slices_Contains_string_string.f slices_Index_string_string.f
  rw [show (0 : Int) = ((0 : Nat) : Int) from rfl, hr k (Nat.le_refl _)]
  simp only [Option.bind_some]
  rw [List.drop_zero] at hm
  congr 1
  exact decide_eq_decide.2 hm
theorem has_s (N : List ByteArray) (P : List S66) (a : ByteArray) (hl : Fits N) : ∀ k, N.length < k → roles_Has.f k N P a = some (decide (a ∈ N)) := by
  intro k hk
  unfold roles_Has.f
  rw [contains_s N a hl k hk]
  rfl
/-! ### Is: there is a road -/
inductive Road (N : List ByteArray) (P : List S66) (a : ByteArray) : ByteArray → Prop
  | here : Road N P a a
  | step {x y : ByteArray} : Road N P a x → (⟨x, y⟩ : S66) ∈ P → y ∈ N → Road N P a y
/-- Who is of. -/
def IsP (N : List ByteArray) (P : List S66) (a b : ByteArray) : Prop := a ∈ N ∧ b ∈ N ∧ Road N P a b
theorem Road.trans {N : List ByteArray} {P : List S66} {a b c : ByteArray} (h : Road N P a b) (h2 : Road N P b c) : Road N P a c := by
  induction h2 with
  | here => exact h
  | step _ hp hn ih => exact .step ih hp hn
theorem IsP.trans {N : List ByteArray} {P : List S66} {a b c : ByteArray} (h : IsP N P a b) (h2 : IsP N P b c) : IsP N P a c := ⟨h.1, h2.2.1, h.2.2.trans h2.2.2⟩
/-- The list of those that are reached so far: each is reached, each is a name, no one twice; those ahead of i have had all their pairs, i's have had those ahead of j. -/
structure Inv (N : List ByteArray) (P : List S66) (a b : ByteArray) (l : List ByteArray) : Prop where
  road : ∀ x ∈ l, Road N P a x
  name : ∀ x ∈ l, x ∈ N
  nodup : l.Nodup
  not : a ≠ b → b ∉ l
  first : a ∈ l
theorem nodup_le {α : Type} [DecidableEq α] : ∀ {l N : List α}, l.Nodup → (∀ x ∈ l, x ∈ N) → l.length ≤ N.length
  | [], _, _, _ => Nat.zero_le _
  | x :: l, N, h, hs => by
    rw [List.nodup_cons] at h
    have hx : x ∈ N := hs x List.mem_cons_self
    have := nodup_le (l := l) (N := N.erase x) h.2 fun y hy => (List.mem_erase_of_ne (by rintro rfl; exact h.1 hy)).2 (hs y (List.mem_cons_of_mem _ hy))
    rw [List.length_erase_of_mem hx] at this
    have := List.length_pos_of_mem hx
    simp only [List.length_cons]
    omega
/-- Those ahead of i have had all their pairs. -/
def Done (N : List ByteArray) (P : List S66) (l : List ByteArray) (i : Nat) : Prop := ∀ m x, m < i → l[m]? = some x → ∀ y, (⟨x, y⟩ : S66) ∈ P → y ∈ N → y ∈ l
theorem Done.road {N : List ByteArray} {P : List S66} {a : ByteArray} {l : List ByteArray} (h : Done N P l l.length) (ha : a ∈ l) {y : ByteArray} (hr : Road N P a y) : y ∈ l := by
  induction hr with
  | here => exact ha
  | @step x y _ hp hn ih =>
    obtain ⟨m, hm, he⟩ := List.getElem_of_mem ih
    exact h m x hm (by rw [List.getElem?_eq_getElem hm, he]) y hp hn
section
variable {N : List ByteArray} {P : List S66} {a b : ByteArray} (hN : N.length ≤ 8796093022208) (hP : Fits P) (hab : a ≠ b)
include hN hP hab
theorem is_in {i : Nat} {R : Nat} (hi : i < 8796093022208)
    (IH : ∀ l, Inv N P a b l → i + 1 ≤ l.length → Done N P l (i + 1) → ∀ k, R ≤ k → roles_Is.l0 k b l false ((i + 1 : Nat) : Int) N P = some (decide (Road N P a b))) :
    ∀ (d j : Nat) (l : List ByteArray) (x : ByteArray), j + d = P.length → Inv N P a b l → l[i]? = some x → Done N P l i → (∀ q p, q < j → P[q]? = some p → p.f0 = x → p.f1 ∈ N → p.f1 ∈ l) →
      ∀ k, 2 * d + 1 + R + N.length + 2 ≤ k → roles_Is.l1 k b l false (i : Int) P (P.length : Int) (j : Int) N P = some (decide (Road N P a b))
  | 0, j, l, x, hj, hI, hx, hD, hC, k, hk => by
    obtain ⟨k, rfl⟩ : ∃ m, k = m + 1 := ⟨k - 1, by omega⟩
    have hil : i < l.length := (List.getElem?_eq_some_iff.1 hx).1
    simp only [roles_Is.l1]
    rw [if_neg (by omega), wrapN i (by omega)]
    refine IH l hI hil ?_ k (by omega)
    intro m y hm hy z hz hn
    by_cases e : m = i
    · subst e
      rw [hx] at hy
      obtain rfl := Option.some.inj hy
      obtain ⟨q, hq, he⟩ := List.getElem_of_mem hz
      exact hC q ⟨x, z⟩ (by omega) (by rw [List.getElem?_eq_getElem hq, he]) rfl hn
    · exact hD m y (by omega) hy z hz hn
  | d + 1, j, l, x, hj, hI, hx, hD, hC, k, hk => by
    obtain ⟨k, rfl⟩ : ∃ m, k = m + 2 := ⟨k - 2, by omega⟩
    have hjl : j < P.length := by omega
    have hil : i < l.length := (List.getElem?_eq_some_iff.1 hx).1
    have hlN : l.length ≤ N.length := nodup_le hI.nodup hI.name
    have hPl : P.length < 4611686018427387904 := hP
    have next : ∀ l', Inv N P a b l' → l'[i]? = some x → Done N P l' i → (∀ q p, q < j + 1 → P[q]? = some p → p.f0 = x → p.f1 ∈ N → p.f1 ∈ l') → roles_Is.l1 k b l' false (i : Int) P (P.length : Int) (wrap64 ((j : Int) + 1)) N P = some (decide (Road N P a b)) := by
      intro l' h1 h2 h3 h4
      rw [wrapN j (by omega)]
      exact is_in hi IH d (j + 1) l' x (by omega) h1 h2 h3 h4 k (by omega)
    have skip : (∀ p, P[j]? = some p → p.f0 = x → p.f1 ∈ N → p.f1 ∈ l) → roles_Is.j4 (k + 1) b l false (i : Int) P (P.length : Int) (j : Int) true N P (P[j].f0) (P[j].f1) = some (decide (Road N P a b)) := by
      intro hs
      simp only [roles_Is.j4]
      rw [if_pos trivial]
      refine next l hI hx hD fun q p hq hp => ?_
      by_cases e : q = j
      · subst e; exact hs p hp
      · exact hC q p (by omega) hp
    rw [roles_Is.l1, if_pos (by omega), if_pos (by omega), if_pos (by omega), if_pos (by omega), if_pos (by omega), rd66_nat _ _ hjl, rdOf_nat _ _ _ hil]
    have hxi : l[i] = x := by rw [List.getElem?_eq_getElem hil] at hx; exact Option.some.inj hx
    rw [hxi]
    by_cases e1 : P[j].f0 = x
    · rw [if_pos (by rw [e1]), has_s N P _ (by unfold Fits; omega) (k + 1) (by omega)]
      simp only [Option.bind_some]
      by_cases e2 : P[j].f1 ∈ N
      · rw [if_pos (decide_eq_true e2), contains_s l _ (by unfold Fits; omega) (k + 1) (by omega)]
        simp only [Option.bind_some]
        by_cases e3 : P[j].f1 ∈ l
        · rw [decide_eq_true e3]
          exact skip fun p hp _ _ => by rw [List.getElem?_eq_getElem hjl] at hp; obtain rfl := Option.some.inj hp; exact e3
        · rw [decide_eq_false e3]
          simp only [roles_Is.j4]
          rw [if_neg (by simp)]
          have hstep : Road N P a (P[j].f1) := .step (hI.road x (List.mem_of_getElem? hx)) (by rw [← e1]; exact List.getElem_mem hjl) e2
          by_cases e4 : P[j].f1 = b
          · rw [if_pos (by rw [e4]), ba_beq, decide_eq_true e4, decide_eq_true (e4 ▸ hstep)]
          · rw [if_neg (fun h => e4 (ba_eq.1 h)), ba_beq, decide_eq_false e4]
            have hI' : Inv N P a b (l ++ [P[j].f1]) := by
              refine ⟨fun y hy => ?_, fun y hy => ?_, ?_, fun _ hm => ?_, List.mem_append_left _ hI.first⟩
              · rcases List.mem_append.1 hy with h | h
                · exact hI.road y h
                · rw [List.mem_singleton.1 h]; exact hstep
              · rcases List.mem_append.1 hy with h | h
                · exact hI.name y h
                · rw [List.mem_singleton.1 h]; exact e2
              · exact List.nodup_append.2 ⟨hI.nodup, by simp, fun y hy z hz e => e3 (by rw [← List.mem_singleton.1 hz, ← e]; exact hy)⟩
              · rcases List.mem_append.1 hm with h | h
                · exact hI.not hab h
                · exact e4 (List.mem_singleton.1 h).symm
            have hl' : (l ++ [P[j].f1]).length ≤ N.length := nodup_le hI'.nodup hI'.name
            rw [List.length_append, List.length_singleton] at hl'
            rw [if_pos (by omega)]
            have hx' : (l ++ [P[j].f1])[i]? = some x := by rw [List.getElem?_append_left hil]; exact hx
            refine next _ hI' hx' ?_ ?_
            · intro m y hm hy z hz hn
              rw [List.getElem?_append_left (by omega)] at hy
              exact List.mem_append_left _ (hD m y hm hy z hz hn)
            · intro q p hq hp h0 hn
              by_cases e : q = j
              · subst e
                rw [List.getElem?_eq_getElem hjl] at hp
                obtain rfl := Option.some.inj hp
                exact List.mem_append_right _ (List.mem_singleton.2 rfl)
              · exact List.mem_append_left _ (hC q p (by omega) hp h0 hn)
      · rw [if_neg (by rw [decide_eq_false e2]; simp)]
        exact skip fun p hp _ hn => by rw [List.getElem?_eq_getElem hjl] at hp; obtain rfl := Option.some.inj hp; exact absurd hn e2
    · rw [if_neg (fun h => e1 (ba_eq.1 h))]
      exact skip fun p hp h0 _ => by rw [List.getElem?_eq_getElem hjl] at hp; obtain rfl := Option.some.inj hp; exact absurd h0 e1
theorem is_out : ∀ (m i : Nat) (l : List ByteArray), N.length ≤ i + m → Inv N P a b l → i ≤ l.length → Done N P l i →
    ∀ k, (m + 1) * (2 * P.length + N.length + 8) ≤ k → roles_Is.l0 k b l false (i : Int) N P = some (decide (Road N P a b)) := by
  intro m
  induction m with
  | zero =>
    intro i l hm hI hi hD k hk
    have hlN : l.length ≤ N.length := nodup_le hI.nodup hI.name
    obtain ⟨k, rfl⟩ : ∃ m, k = m + 2 := ⟨k - 2, by omega⟩
    have he : i = l.length := by omega
    subst he
    simp only [roles_Is.l0, roles_Is.j2]
    rw [if_neg (by omega), if_neg (by simp)]
    rw [decide_eq_false fun hr => hI.not hab (hD.road hI.first hr)]
  | succ m ih =>
    intro i l hm hI hi hD k hk
    have hlN : l.length ≤ N.length := nodup_le hI.nodup hI.name
    have hk2 : (m + 1 + 1) * (2 * P.length + N.length + 8) = (m + 1) * (2 * P.length + N.length + 8) + (2 * P.length + N.length + 8) := by rw [Nat.add_mul, Nat.one_mul]
    obtain ⟨k, rfl⟩ : ∃ m, k = m + 2 := ⟨k - 2, by omega⟩
    simp only [roles_Is.l0, roles_Is.j2]
    by_cases e : i < l.length
    · rw [if_pos (by omega), if_pos (by simp)]
      refine is_in hN hP hab (i := i) (R := (m + 1) * (2 * P.length + N.length + 8)) (by omega) ?_ P.length 0 l l[i] (by omega) hI (List.getElem?_eq_getElem e) hD (fun q p hq => absurd hq (Nat.not_lt_zero q)) k (by omega)
      intro l' hI' hi' hD' k' hk'
      exact ih (i + 1) l' (by omega) hI' hi' hD' k' hk'
    · have he : i = l.length := by omega
      subst he
      rw [if_neg (by omega), if_neg (by simp)]
      rw [decide_eq_false fun hr => hI.not hab (hD.road hI.first hr)]
end
theorem is_s (N : List ByteArray) (P : List S66) (a b : ByteArray) (hN : N.length ≤ 8796093022208) (hP : Fits P) : ∀ k, (N.length + 1) * (2 * P.length + N.length + 8) + 4 ≤ k → roles_Is.f k N P a b = some (decide (IsP N P a b)) := by
  intro k hk
  have hk2 : (N.length + 1) * (2 * P.length + N.length + 8) = N.length * (2 * P.length + N.length + 8) + (2 * P.length + N.length + 8) := by rw [Nat.add_mul, Nat.one_mul]
  unfold roles_Is.f
  rw [has_s N P a (by unfold Fits; omega) k (by omega)]
  simp only [Option.bind_some]
  by_cases ha : a ∈ N
  · rw [if_pos (decide_eq_true ha), has_s N P b (by unfold Fits; omega) k (by omega)]
    simp only [Option.bind_some]
    obtain ⟨k, rfl⟩ : ∃ m, k = m + 3 := ⟨k - 3, by omega⟩
    simp only [roles_Is.j0]
    by_cases hb : b ∈ N
    · rw [decide_eq_true hb, if_neg (by simp), ba_beq]
      by_cases e : a = b
      · subst e
        rw [decide_eq_true rfl]
        simp only [roles_Is.l0, roles_Is.j2, List.length_singleton]
        rw [if_pos (by omega), if_neg (by simp), decide_eq_true ⟨ha, ha, .here⟩]
      · rw [decide_eq_false e]
        rw [show (0 : Int) = ((0 : Nat) : Int) from rfl, is_out hN hP e N.length 0 [a] (by omega) ⟨by simp; exact .here, by simpa using ha, by simp, fun _ h => e (List.mem_singleton.1 h).symm, by simp⟩ (by omega) (fun m x hm => absurd hm (Nat.not_lt_zero m)) (k + 2) (by omega)]
        exact congrArg some (decide_eq_decide.2 ⟨fun h => ⟨ha, hb, h⟩, fun h => h.2.2⟩)
    · rw [decide_eq_false hb, if_pos (by simp), decide_eq_false fun h => hb h.2.1]
  · rw [if_neg (by rw [decide_eq_false ha]; simp)]
    obtain ⟨k, rfl⟩ : ∃ m, k = m + 1 := ⟨k - 1, by omega⟩
    simp only [roles_Is.j0]
    rw [if_pos trivial, decide_eq_false fun h => ha h.1]
/-! ### Find, All, formed -/
def FindP (T : List S71) (n : ByteArray) : Option S71 := T.find? fun t => decide (t.f1.f0 = n)
theorem name_s (T : List S71) (n : ByteArray) : ∀ d i, i + d = T.length →
    (FindP (T.drop i) n = none ∧ nameFrom T n d i = -1) ∨ ∃ (j : Nat) (h : j < T.length), nameFrom T n d i = (j : Int) ∧ FindP (T.drop i) n = some T[j]
  | 0, i, h => by
    left
    rw [List.drop_eq_nil_of_le (by omega)]
    exact ⟨rfl, rfl⟩
  | d + 1, i, h => by
    have hi : i < T.length := by omega
    rw [List.drop_eq_getElem_cons hi]
    unfold FindP nameFrom
    rw [rd71_nat T i hi, ba_beq, List.find?_cons]
    by_cases e : T[i].f1.f0 = n
    · right
      rw [decide_eq_true e]
      exact ⟨i, hi, by simp, rfl⟩
    · rw [decide_eq_false e]
      rcases name_s T n d (i + 1) (by omega) with ⟨h1, h2⟩ | ⟨j, hj, h1, h2⟩
      · exact Or.inl ⟨h1, by simpa using h2⟩
      · exact Or.inr ⟨j, hj, by simpa using h1, h2⟩
theorem find_s (T : List S71) (n : ByteArray) (a0 a2 : Int) : schema_Find.f a0 T a2 n = some (match FindP T n with | none => (0, ⟨#[]⟩, 0, ⟨#[]⟩, false) | some t => (t.f0, t.f1.f0, 0, t.f1.f2, true)) := by
  unfold schema_Find.f
  rcases name_s T n T.length 0 (by omega) with ⟨h1, h2⟩ | ⟨j, hj, h1, h2⟩
  · rw [List.drop_zero] at h1
    rw [h1, h2, if_pos (by omega)]
  · rw [List.drop_zero] at h2
    rw [h1, h2, if_neg (by omega), rd71_nat T j hj]
def root : ByteArray := ⟨#[114, 111, 111, 116]⟩
/-- Who may all of a table. -/
def AllP (T : List S71) (N : List ByteArray) (P : List S66) (role table : ByteArray) : Prop := ∃ t, FindP T table = some t ∧ (IsP N P role root ∨ IsP N P role t.f1.f2)
/-- The rounds that are enough for Is. -/
def kIs (N : List ByteArray) (P : List S66) : Nat := (N.length + 1) * (2 * P.length + N.length + 8) + 4
theorem kIs_le (N : List ByteArray) (P : List S66) : N.length < kIs N P := by
  unfold kIs
  have hk2 : (N.length + 1) * (2 * P.length + N.length + 8) = N.length * (2 * P.length + N.length + 8) + (2 * P.length + N.length + 8) := by rw [Nat.add_mul, Nat.one_mul]
  omega
section
variable (T : List S71) (N : List ByteArray) (P : List S66) (hN : N.length ≤ 8796093022208) (hP : Fits P)
include hN hP
theorem all_s (role table : ByteArray) (a0 a2 : Int) : ∀ k, kIs N P ≤ k → grants_All.f k a0 T a2 N P role table = some (decide (AllP T N P role table)) := by
  intro k hk
  unfold grants_All.f
  rw [find_s]
  simp only [Option.bind_some]
  cases hf : FindP T table with
  | none =>
    simp only [Bool.false_eq_true, if_false]
    rw [decide_eq_false]
    rintro ⟨t, ht, _⟩
    rw [hf] at ht
    cases ht
  | some t =>
    simp only [if_true]
    rw [is_s N P _ _ hN hP k hk]
    simp only [Option.bind_some]
    by_cases h1 : IsP N P role root
    · rw [if_pos (decide_eq_true (show IsP N P role ⟨#[114, 111, 111, 116]⟩ from h1)), decide_eq_true ⟨t, hf, Or.inl h1⟩]
    · rw [if_neg (by rw [decide_eq_false (show ¬ IsP N P role ⟨#[114, 111, 111, 116]⟩ from h1)]; simp), is_s N P _ _ hN hP k hk]
      simp only [Option.bind_some]
      refine congrArg some (decide_eq_decide.2 ⟨fun h => ⟨t, hf, Or.inr h⟩, ?_⟩)
      rintro ⟨t', ht', h⟩
      rw [hf] at ht'
      obtain rfl := Option.some.inj ht'
      exact h.resolve_left h1
/-- A grant of rights that there are, on a table and of roles that there are. -/
def FormedP (T : List S71) (N : List ByteArray) (g : S43) : Prop := (∃ t, FindP T g.f2 = some t) ∧ g.f0 ∈ N ∧ g.f1 ∈ N ∧ g.f3 ≠ 0 ∧ Go.bits .andNot .u8 g.f3 31 = 0
omit hP in
theorem formed_s (l : List S43) (g : S43) (a0 a2 : Int) : ∀ k, N.length < k → grants_world_formed.f k a0 T a2 N P l g.f0 g.f1 g.f2 g.f3 g.f4 = some (decide (FormedP T N g)) := by
  intro k hk
  have hF : Fits N := by unfold Fits; omega
  unfold grants_world_formed.f
  rw [find_s]
  simp only [Option.bind_some]
  cases hf : FindP T g.f2 with
  | none =>
    simp only [Bool.false_eq_true, if_false]
    rw [decide_eq_false]
    rintro ⟨⟨t, ht⟩, _⟩
    rw [hf] at ht
    cases ht
  | some t =>
    simp only [if_true]
    rw [has_s N P _ hF k hk]
    simp only [Option.bind_some]
    by_cases h1 : g.f0 ∈ N
    · rw [if_pos (decide_eq_true h1), has_s N P _ hF k hk]
      simp only [Option.bind_some]
      by_cases h2 : g.f1 ∈ N
      · rw [if_pos (decide_eq_true h2)]
        by_cases h3 : g.f3 = 0
        · rw [if_pos h3, decide_eq_false fun h => h.2.2.2.1 h3]
        · rw [if_neg h3]
          simp only [grants_Full.f, Option.bind_some]
          refine congrArg some ?_
          by_cases h4 : Go.bits .andNot .u8 g.f3 31 = 0
          · rw [decide_eq_true ⟨⟨t, hf⟩, h1, h2, h3, h4⟩]; simp [h4]
          · rw [decide_eq_false fun h => h4 h.2.2.2.2]; simp [h4]
      · rw [if_neg (by rw [decide_eq_false h2]; simp), decide_eq_false fun h => h2 h.2.2.1]
    · rw [if_neg (by rw [decide_eq_false h1]; simp), decide_eq_false fun h => h1 h.2.1]
end
end Go.Proofs.Yteklimdjlihloaa.G
