/- GrantsMembers, as a plain statement: who is a role may what that one may; who may rights may each of them alone. Conditions: as each theorem states them. -/
import Derived.Test.YteklimdjlihloaaSp7
import Derived.Test.YteklimdjlihloaaLMembers
namespace Go.Proofs.Yteklimdjlihloaa.G
open Go.RowKit Go.Proofs.YteklimdjlihloaaW.PrintWords Go.Proofs.YteklimdjlihloaaW.PrintMore
open Classical
theorem all_member (T : List S71) (N : List ByteArray) (P : List S66) {who of table : ByteArray} (h : IsP N P who of) (ha : AllP T N P of table) : AllP T N P who table := by
  obtain ⟨t, ht, hi⟩ := ha
  exact ⟨t, ht, hi.imp h.trans h.trans⟩
theorem may_member (T : List S71) (N : List ByteArray) (P : List S66) {l : List S43} {q : Bool} {who of table : ByteArray} {rights : Int} (h : IsP N P who of) (hm : MayP T N P l q of table rights) : MayP T N P l q who table rights := by
  rw [may_iff] at hm ⊢
  refine ⟨hm.1, h.1, hm.2.2.imp (all_member T N P h) fun hc b hb hr => ?_⟩
  obtain ⟨g, h1, h2, h3, h4, h5⟩ := hc b hb hr
  exact ⟨g, h1, h2, h3, h.trans h4, h5⟩
theorem one_bit (n : Nat) (hn : n < 8) (b : Nat) (hb : b < 8) : bit (shl .u8 1 (n : Int)) b = decide (b = n) := by
  have h1 : ∀ n : Fin 8, ∀ b : Fin 8, bit (shl .u8 1 ((n : Nat) : Int)) (b : Nat) = decide ((b : Nat) = (n : Nat)) := by decide +kernel
  exact h1 ⟨n, hn⟩ ⟨b, hb⟩
theorem and_zero (x y : Int) : Go.bits .and .u8 x y = 0 ↔ ∀ b, b < 8 → bit x b = true → bit y b = true → False := by
  show IntKind.u8.wrap (((BitVec.ofInt 8 x) &&& (BitVec.ofInt 8 y)).toNat : Int) = 0 ↔ _
  rw [bits_toNat]
  unfold bit
  constructor
  · intro h b hb hx hy
    have h0 : ((BitVec.ofInt 8 x) &&& (BitVec.ofInt 8 y)) = 0#8 := BitVec.eq_of_toNat_eq (by simpa using h)
    have := congrArg (fun v => BitVec.getLsbD v b) h0
    simp [BitVec.getLsbD_and, hx, hy] at this
  · intro h
    have h0 : ((BitVec.ofInt 8 x) &&& (BitVec.ofInt 8 y)) = 0#8 := by
      apply BitVec.eq_of_getLsbD_eq
      intro b hb
      rw [BitVec.getLsbD_and]
      cases hx : (BitVec.ofInt 8 x).getLsbD b with
      | false => simp
      | true =>
        cases hy : (BitVec.ofInt 8 y).getLsbD b with
        | false => simp
        | true => exact absurd (h b hb hx hy) id
    rw [h0]; rfl
theorem and_one (x : Int) (n : Nat) (hn : n < 8) : Go.bits .and .u8 x (shl .u8 1 (n : Int)) = 0 ↔ bit x n = false := by
  rw [and_zero]
  constructor
  · intro h
    cases e : bit x n with
    | false => rfl
    | true => exact absurd (h n hn e (by rw [one_bit n hn n hn]; simp)) id
  · intro h b hb hx hy
    rw [one_bit n hn b hb] at hy
    rw [of_decide_eq_true hy, h] at hx
    cases hx
section
variable [Inhabited CtxS] (who of table : ByteArray) (rights : Int) (l : List S43) (a0 a2 s0 s2 : Int)
/-- Who may nought, and each of the first n rights. -/
def EachP (n : Nat) : Prop := MayP XT X.N X.P l false who table 0 ∧ ∀ m, m < n → bit rights m = true → MayP XT X.N X.P l false who table (shl .u8 1 (m : Int))
theorem each_all : EachP who table rights l 8 ↔ MayP XT X.N X.P l false who table rights := by
  unfold EachP
  simp only [may_iff]
  constructor
  · rintro ⟨⟨h1, h2, _⟩, h4⟩
    refine ⟨h1, h2, ?_⟩
    by_cases ha : AllP XT X.N X.P who table
    · exact Or.inl ha
    · refine Or.inr fun b hb hr => ?_
      have := (h4 b hb hr).2.2.resolve_left ha
      exact this b hb (by rw [one_bit b hb b hb]; simp)
  · rintro ⟨h1, h2, h3⟩
    refine ⟨⟨h1, h2, Or.inr fun b _ hr => by rw [bit_zero] at hr; cases hr⟩, fun m hm hr => ⟨h1, h2, h3.imp id fun hc b hb hx => ?_⟩⟩
    rw [one_bit m hm b hb] at hx
    rw [of_decide_eq_true hx]
    exact hc m hm hr
variable (hl : l.length ≤ 30)
include hl
theorem mem_l0 : ∀ (d i : Nat) (c : Bool), i + d = 8 → c = decide (EachP who table rights l i) → ∀ k, d < k → g_Members.l0 k who table rights c (i : Int) a0 X.C a2 X.tN X.tP l s0 XT s2 X.tN X.tP = some true
  | 0, i, c, h, hc, k, hk => by
    obtain ⟨k, rfl⟩ : ∃ m, k = m + 1 := ⟨k - 1, by omega⟩
    obtain rfl : i = 8 := by omega
    simp only [g_Members.l0]
    rw [if_neg (by omega), h_may _ _ _ (by omega)]
    simp only [Option.bind_some]
    rw [hc]
    have : decide (MayP XT X.N X.P l false who table rights) = decide (EachP who table rights l 8) := decide_eq_decide.2 (each_all who table rights l).symm
    rw [this]
    simp
  | d + 1, i, c, h, hc, k, hk => by
    obtain ⟨k, rfl⟩ : ∃ m, k = m + 1 := ⟨k - 1, by omega⟩
    have next : ∀ c', c' = decide (EachP who table rights l (i + 1)) → g_Members.l0 k who table rights c' (wrap64 ((i : Int) + 1)) a0 X.C a2 X.tN X.tP l s0 XT s2 X.tN X.tP = some true := by
      intro c' hc'
      rw [wrapN i (by omega)]
      exact mem_l0 d (i + 1) c' (by omega) hc' k (by omega)
    simp only [g_Members.l0]
    rw [if_pos (by omega), if_pos (by omega)]
    have split : EachP who table rights l (i + 1) ↔ EachP who table rights l i ∧ (bit rights i = true → MayP XT X.N X.P l false who table (shl .u8 1 (i : Int))) := by
      unfold EachP
      constructor
      · rintro ⟨h1, h2⟩
        exact ⟨⟨h1, fun m hm => h2 m (by omega)⟩, h2 i (by omega)⟩
      · rintro ⟨⟨h1, h2⟩, h3⟩
        refine ⟨h1, fun m hm => ?_⟩
        by_cases e : m = i
        · subst e; exact h3
        · exact h2 m (by omega)
    by_cases e : bit rights i = true
    · rw [if_neg (fun hh => by rw [(and_one rights i (by omega)).1 hh] at e; cases e)]
      by_cases e2 : EachP who table rights l i
      · rw [if_pos (by rw [hc, decide_eq_true e2]), h_may _ _ _ (by omega)]
        simp only [Option.bind_some]
        exact next _ (decide_eq_decide.2 ⟨fun h => split.2 ⟨e2, fun _ => h⟩, fun h => (split.1 h).2 e⟩)
      · rw [if_neg (by rw [hc, decide_eq_false e2]; simp)]
        exact next _ (decide_eq_false fun h => e2 (split.1 h).1).symm
    · rw [if_pos ((and_one rights i (by omega)).2 (Bool.eq_false_iff.mpr e))]
      refine next _ (hc.trans (decide_eq_decide.2 ⟨fun h => split.2 ⟨h, fun h => absurd h e⟩, fun h => (split.1 h).1⟩))
theorem mem_j1 : ∀ k, 10 ≤ k → g_Members.j1 k who table rights a0 X.C a2 X.tN X.tP l s0 XT s2 X.tN X.tP = some true := by
  intro k hk
  obtain ⟨k, rfl⟩ : ∃ m, k = m + 1 := ⟨k - 1, by omega⟩
  simp only [g_Members.j1]
  rw [h_may _ _ _ (by omega)]
  simp only [Option.bind_some]
  refine mem_l0 who table rights l a0 a2 s0 s2 hl 8 0 _ (by omega) (decide_eq_decide.2 ⟨fun h => ⟨h, fun m hm => absurd hm (Nat.not_lt_zero m)⟩, fun h => h.1⟩) k (by omega)
theorem mem_if : (if decide (IsP X.N X.P who of) = true then ((h_All.f a0 XT 0 X.tN X.tP of table).bind fun t289 => (if t289 = true then ((h_All.f a0 XT 0 X.tN X.tP who table).bind fun t290 => (if t290 = true then ((h_May.f a0 XT 0 X.tN X.tP l of table rights).bind fun t291 => (if t291 = true then ((h_May.f a0 XT 0 X.tN X.tP l who table rights).bind fun t292 => (if t292 = true then ((h_Pass.f a0 XT 0 X.tN X.tP l of table rights).bind fun t293 => (if t293 = true then ((h_Pass.f a0 XT 0 X.tN X.tP l who table rights).bind fun t294 => (if t294 = true then (some true) else (some false))) else (some true))) else (some false))) else ((h_Pass.f a0 XT 0 X.tN X.tP l of table rights).bind fun t295 => (if t295 = true then ((h_Pass.f a0 XT 0 X.tN X.tP l who table rights).bind fun t296 => (if t296 = true then (some true) else (some false))) else (some true))))) else (some false))) else ((h_May.f a0 XT 0 X.tN X.tP l of table rights).bind fun t297 => (if t297 = true then ((h_May.f a0 XT 0 X.tN X.tP l who table rights).bind fun t298 => (if t298 = true then ((h_Pass.f a0 XT 0 X.tN X.tP l of table rights).bind fun t299 => (if t299 = true then ((h_Pass.f a0 XT 0 X.tN X.tP l who table rights).bind fun t300 => (if t300 = true then (some true) else (some false))) else (some true))) else (some false))) else ((h_Pass.f a0 XT 0 X.tN X.tP l of table rights).bind fun t301 => (if t301 = true then ((h_Pass.f a0 XT 0 X.tN X.tP l who table rights).bind fun t302 => (if t302 = true then (some true) else (some false))) else (some true))))))) else (some true)) = some true := by
  have hl2 : l.length < 1000000000000 := by omega
  by_cases hi : IsP X.N X.P who of
  · have P1 : ((h_Pass.f a0 XT 0 X.tN X.tP l of table rights).bind fun t293 => (if t293 = true then ((h_Pass.f a0 XT 0 X.tN X.tP l who table rights).bind fun t294 => (if t294 = true then (some true) else (some false))) else (some true))) = some true := by
      rw [h_pass a0 0 l hl2]
      simp only [Option.bind_some]
      by_cases e : MayP XT X.N X.P l true of table rights
      · rw [if_pos (decide_eq_true e), h_pass a0 0 l hl2]
        simp only [Option.bind_some]
        rw [if_pos (decide_eq_true (may_member _ _ _ hi e))]
      · rw [if_neg (by rw [decide_eq_false e]; simp)]
    have M1 : ((h_May.f a0 XT 0 X.tN X.tP l of table rights).bind fun t291 => (if t291 = true then ((h_May.f a0 XT 0 X.tN X.tP l who table rights).bind fun t292 => (if t292 = true then (some true) else (some false))) else (some true))) = some true := by
      rw [h_may a0 0 l hl2]
      simp only [Option.bind_some]
      by_cases e : MayP XT X.N X.P l false of table rights
      · rw [if_pos (decide_eq_true e), h_may a0 0 l hl2]
        simp only [Option.bind_some]
        rw [if_pos (decide_eq_true (may_member _ _ _ hi e))]
      · rw [if_neg (by rw [decide_eq_false e]; simp)]
    rw [if_pos (decide_eq_true hi), P1, M1, h_all]
    simp only [Option.bind_some]
    by_cases e : AllP XT X.N X.P of table
    · rw [if_pos (decide_eq_true e), h_all]
      simp only [Option.bind_some]
      rw [if_pos (decide_eq_true (all_member _ _ _ hi e))]
    · rw [if_neg (by rw [decide_eq_false e]; simp)]
  · rw [if_neg (by rw [decide_eq_false hi]; simp)]
omit hl in
theorem members_pure (hfl : Fits l) : ∃ k, g_Members.f k a0 X.C a2 X.tN X.tP l who of table rights = some true := by
  have jt : ∀ k, 0 < k → g_Members.j0 k who of table rights true a0 X.C a2 X.tN X.tP l = some true := by
    intro k hk
    obtain ⟨k, rfl⟩ : ∃ m, k = m + 1 := ⟨k - 1, by omega⟩
    simp [g_Members.j0, h_works.f]
  have hw : h_works.f = some true := rfl
  cases hlg : largeP l with
  | true =>
    refine ⟨1, ?_⟩
    unfold g_Members.f
    rw [hw, Option.bind_some, if_pos rfl, h_large l a0 a2 hfl, hlg, Option.bind_some, if_pos rfl]
    exact jt 1 (by omega)
  | false =>
    by_cases e0 : (wrap64 ((who.size : Int) + (of.size : Int))) > 400
    · refine ⟨1, ?_⟩
      unfold g_Members.f
      rw [hw, Option.bind_some, if_pos rfl, h_large l a0 a2 hfl, hlg, Option.bind_some, if_neg Bool.false_ne_true, if_pos e0]
      exact jt 1 (by omega)
    by_cases e : (table.size : Int) > 400
    · refine ⟨1, ?_⟩
      unfold g_Members.f
      rw [hw, Option.bind_some, if_pos rfl, h_large l a0 a2 hfl, hlg, Option.bind_some, if_neg Bool.false_ne_true, if_neg e0, decide_eq_true e]
      exact jt 1 (by omega)
    · have hs := (largeP_small hlg).2.2.2
      refine ⟨X.C.length + 20, ?_⟩
      unfold g_Members.f
      rw [hw, Option.bind_some, if_pos rfl, h_large l a0 a2 hfl, hlg, Option.bind_some, if_neg Bool.false_ne_true, if_neg e0, decide_eq_false e, show X.C.length + 20 = (X.C.length + 19) + 1 by omega]
      have J := mem_j1 who table rights l a0 a2 a0 0 hs (X.C.length + 19) (by omega)
      rw [g_Members.j0, if_neg Bool.false_ne_true, h_state l a0 a2 _ (by omega), Option.bind_some, h_Case_roled.f, Option.bind_some]
      rw [J, h_is, Option.bind_some]
      exact mem_if who of table rights l a0 hs
end
end Go.Proofs.Yteklimdjlihloaa.G
