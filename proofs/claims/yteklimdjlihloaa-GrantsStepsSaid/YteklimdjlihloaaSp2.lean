/- What had, counts, May and Pass come to: the least set of grants that is closed under counting. Conditions: as each theorem states them. -/
import Derived.Test.YteklimdjlihloaaSp1
namespace Go.Proofs.Yteklimdjlihloaa.G
open Go.RowKit Go.Proofs.YteklimdjlihloaaW.PrintWords
open Classical
/-- A right of a set of rights. -/
def bit (x : Int) (b : Nat) : Bool := (BitVec.ofInt 8 x).getLsbD b
theorem bits_toNat (v : BitVec 8) : IntKind.u8.wrap ((v.toNat : Nat) : Int) = (v.toNat : Int) := wraps_u8 _ (by omega) (by have := v.isLt; omega)
theorem bit_toNat (v : BitVec 8) (b : Nat) : bit (v.toNat : Int) b = v.getLsbD b := by
  unfold bit
  rw [BitVec.ofInt_natCast, BitVec.ofNat_toNat, BitVec.setWidth_eq]
theorem bit_or (x y : Int) (b : Nat) : bit (Go.bits .or .u8 x y) b = (bit x b || bit y b) := by
  show bit (IntKind.u8.wrap (((BitVec.ofInt 8 x) ||| (BitVec.ofInt 8 y)).toNat : Int)) b = _
  rw [bits_toNat, bit_toNat, BitVec.getLsbD_or]
  rfl
theorem bit_zero (b : Nat) : bit 0 b = false := by unfold bit; simp
theorem andNot_zero (x y : Int) : Go.bits .andNot .u8 x y = 0 ↔ ∀ b, b < 8 → bit x b = true → bit y b = true := by
  show IntKind.u8.wrap (((BitVec.ofInt 8 x) &&& ~~~(BitVec.ofInt 8 y)).toNat : Int) = 0 ↔ _
  rw [bits_toNat]
  unfold bit
  constructor
  · intro h b hb hx
    have h0 : ((BitVec.ofInt 8 x) &&& ~~~(BitVec.ofInt 8 y)) = 0#8 := BitVec.eq_of_toNat_eq (by simpa using h)
    have := congrArg (fun v => BitVec.getLsbD v b) h0
    simp only [BitVec.getLsbD_and, BitVec.getLsbD_not, hx, hb, decide_true, Bool.true_and, BitVec.getLsbD_zero] at this
    simpa using this
  · intro h
    have h0 : ((BitVec.ofInt 8 x) &&& ~~~(BitVec.ofInt 8 y)) = 0#8 := by
      apply BitVec.eq_of_getLsbD_eq
      intro b hb
      simp only [BitVec.getLsbD_and, BitVec.getLsbD_not, hb, decide_true, Bool.true_and, BitVec.getLsbD_zero]
      cases hx : (BitVec.ofInt 8 x).getLsbD b with
      | false => rfl
      | true => rw [h b hb hx]; rfl
    rw [h0]; rfl
section
variable (T : List S71) (N : List ByteArray) (P : List S66)
/-- A grant that is asked for gives a role a right on a table. -/
def Gives (l : List S43) (S : Nat → Prop) (q : Bool) (role table : ByteArray) (b m : Nat) : Prop := ∃ g, l[m]? = some g ∧ S m ∧ (q = true → g.f4 = true) ∧ g.f2 = table ∧ IsP N P role g.f1 ∧ bit g.f3 b = true
/-- All the rights are given. -/
def Covers (l : List S43) (S : Nat → Prop) (q : Bool) (role table : ByteArray) (rights : Int) : Prop := ∀ b, b < 8 → bit rights b = true → ∃ m, Gives N P l S q role table b m
/-- A grant counts by some others. -/
def StepP (l : List S43) (S : Nat → Prop) (i : Nat) : Prop := ∃ g, l[i]? = some g ∧ FormedP T N g ∧ (AllP T N P g.f0 g.f2 ∨ Covers N P l S true g.f0 g.f2 g.f3)
/-- The least set that is closed under counting. -/
def CntP (l : List S43) (i : Nat) : Prop := ∀ S : Nat → Prop, (∀ j, StepP T N P l S j → S j) → S i
theorem Covers.mono {l : List S43} {S S' : Nat → Prop} {q : Bool} {role table : ByteArray} {rights : Int} (h : ∀ i, S i → S' i) (hc : Covers N P l S q role table rights) : Covers N P l S' q role table rights := by
  intro b hb hr
  obtain ⟨m, g, h1, h2, h3⟩ := hc b hb hr
  exact ⟨m, g, h1, h m h2, h3⟩
theorem StepP.mono {l : List S43} {S S' : Nat → Prop} (h : ∀ i, S i → S' i) {i : Nat} (hs : StepP T N P l S i) : StepP T N P l S' i := by
  obtain ⟨g, h1, h2, h3⟩ := hs
  exact ⟨g, h1, h2, h3.imp id (Covers.mono N P h)⟩
theorem CntP.step {l : List S43} {i : Nat} (h : StepP T N P l (CntP T N P l) i) : CntP T N P l i := fun S hS => hS i (h.mono T N P fun j hj => hj S hS)
/-- Which grants count. -/
noncomputable def countsP (l : List S43) : List Bool := (List.range l.length).map fun i => decide (CntP T N P l i)
theorem countsP_length (l : List S43) : (countsP T N P l).length = l.length := by simp [countsP]
theorem countsP_get (l : List S43) (i : Nat) (h : i < l.length) : (countsP T N P l)[i]? = some (decide (CntP T N P l i)) := by
  unfold countsP
  rw [List.getElem?_map, List.getElem?_range h]
  rfl
/-- Whether a role may, or may pass on. -/
def MayP (l : List S43) (q : Bool) (role table : ByteArray) (rights : Int) : Prop := (∃ t, FindP T table = some t) ∧ role ∈ N ∧ (AllP T N P role table ∨ Covers N P l (CntP T N P l) q role table rights)
variable (hN : N.length ≤ 8796093022208) (hP : Fits P)
include hN hP
theorem had_l (l : List S43) (hl : Fits l) (q : Bool) (out : List Bool) (ho : out.length = l.length) (role table : ByteArray) (a0 a2 : Int) : ∀ (d i : Nat) (acc : Int), i + d = l.length →
    ∃ r : Int, (∀ k, d + kIs N P + 1 ≤ k → grants_world_had.l0 k role table (q, out) acc l (l.length : Int) (i : Int) a0 T a2 N P l = some r) ∧
      ∀ b, bit r b = true ↔ bit acc b = true ∨ ∃ m, i ≤ m ∧ Gives N P l (fun j => out[j]? = some true) q role table b m
  | 0, i, acc, h => by
    refine ⟨acc, fun k hk => ?_, fun b => ⟨Or.inl, fun hb => hb.resolve_right ?_⟩⟩
    · obtain ⟨k, rfl⟩ : ∃ m, k = m + 1 := ⟨k - 1, by omega⟩
      simp only [grants_world_had.l0]
      rw [if_neg (by omega)]
    · rintro ⟨m, hm, g, hg, _⟩
      rw [List.getElem?_eq_none (by omega)] at hg
      cases hg
  | d + 1, i, acc, h => by
    have hi : i < l.length := by omega
    have hf : l.length < 4611686018427387904 := hl
    have skip : (∀ b, ¬ Gives N P l (fun j => out[j]? = some true) q role table b i) → ∃ r : Int, (∀ k, d + kIs N P + 1 ≤ k → grants_world_had.l0 k role table (q, out) acc l (l.length : Int) (wrap64 ((i : Int) + 1)) a0 T a2 N P l = some r) ∧
        ∀ b, bit r b = true ↔ bit acc b = true ∨ ∃ m, i ≤ m ∧ Gives N P l (fun j => out[j]? = some true) q role table b m := by
      intro hno
      obtain ⟨r, hr, hb⟩ := had_l l hl q out ho role table a0 a2 d (i + 1) acc (by omega)
      refine ⟨r, fun k hk => by rw [wrapN i (by omega)]; exact hr k hk, fun b => (hb b).trans (or_congr_right ⟨?_, ?_⟩)⟩
      · rintro ⟨m, hm, hg⟩; exact ⟨m, by omega, hg⟩
      · rintro ⟨m, hm, hg⟩
        refine ⟨m, ?_, hg⟩
        by_cases e : m = i
        · subst e; exact absurd hg (hno b)
        · omega
    have open_ : ∀ k, grants_world_had.l0 (k + 1) role table (q, out) acc l (l.length : Int) (i : Int) a0 T a2 N P l = (if (l[i].f2).toList = table.toList then ((grants_world_counts_1.f (i : Int) (q, out) l).bind fun t152 => (if t152 = true then ((roles_Is.f k N P role (l[i].f1)).bind fun t153 => (if t153 = true then (grants_world_had.l0 k role table (q, out) (Go.bits .or .u8 acc (l[i].f3)) l (l.length : Int) (wrap64 ((i : Int) + 1)) a0 T a2 N P l) else (grants_world_had.l0 k role table (q, out) acc l (l.length : Int) (wrap64 ((i : Int) + 1)) a0 T a2 N P l))) else (grants_world_had.l0 k role table (q, out) acc l (l.length : Int) (wrap64 ((i : Int) + 1)) a0 T a2 N P l))) else (grants_world_had.l0 k role table (q, out) acc l (l.length : Int) (wrap64 ((i : Int) + 1)) a0 T a2 N P l)) := by
      intro k
      rw [grants_world_had.l0, if_pos (by omega), if_pos (by omega), if_pos (by omega), rd43_nat l i hi]
    have hgi : l[i]? = some l[i] := List.getElem?_eq_getElem hi
    have hoi : out[i]? = some (rdOf false out (i : Int)) := by rw [rdOf_nat false out i (by omega)]; exact List.getElem?_eq_getElem (by omega)
    by_cases e1 : l[i].f2 = table
    · have hc : grants_world_counts_1.f (i : Int) (q, out) l = some (rdOf false out (i : Int) && (!q || l[i].f4)) := by
        unfold grants_world_counts_1.f
        simp only
        rw [if_pos (by omega), if_pos (by omega), rd43_nat l i hi]
        cases rdOf false out (i : Int) with
        | false => simp
        | true => rw [if_pos rfl, if_pos (by omega)]; simp
      by_cases e2 : (rdOf false out (i : Int) && (!q || l[i].f4)) = true
      · by_cases e3 : IsP N P role l[i].f1
        · obtain ⟨r, hr, hb⟩ := had_l l hl q out ho role table a0 a2 d (i + 1) (Go.bits .or .u8 acc (l[i].f3)) (by omega)
          refine ⟨r, fun k hk => ?_, fun b => (hb b).trans ?_⟩
          · obtain ⟨k, rfl⟩ : ∃ m, k = m + 1 := ⟨k - 1, by omega⟩
            rw [open_, if_pos (by rw [e1]), hc]
            simp only [Option.bind_some]
            rw [if_pos e2, is_s N P _ _ hN hP k (by unfold kIs at hk; omega)]
            simp only [Option.bind_some]
            rw [if_pos (decide_eq_true e3), wrapN i (by omega)]
            exact hr k (by omega)
          · rw [bit_or, Bool.or_eq_true]
            have hq : q = true → l[i].f4 = true := by
              intro hq
              rw [Bool.and_eq_true] at e2
              simpa [hq] using e2.2
            have ho1 : out[i]? = some true := by rw [Bool.and_eq_true] at e2; rw [hoi, e2.1]
            constructor
            · rintro ((h | h) | ⟨m, hm, hg⟩)
              · exact Or.inl h
              · exact Or.inr ⟨i, Nat.le_refl _, l[i], hgi, ho1, hq, e1, e3, h⟩
              · exact Or.inr ⟨m, by omega, hg⟩
            · rintro (h | ⟨m, hm, hg⟩)
              · exact Or.inl (Or.inl h)
              · by_cases e : m = i
                · subst e
                  obtain ⟨g, h1, _, _, _, _, h6⟩ := hg
                  rw [hgi] at h1
                  obtain rfl := Option.some.inj h1
                  exact Or.inl (Or.inr h6)
                · exact Or.inr ⟨m, by omega, hg⟩
        · obtain ⟨r, hr, hb⟩ := skip fun b ⟨g, h1, _, _, _, h5, _⟩ => by rw [hgi] at h1; obtain rfl := Option.some.inj h1; exact e3 h5
          refine ⟨r, fun k hk => ?_, hb⟩
          obtain ⟨k, rfl⟩ : ∃ m, k = m + 1 := ⟨k - 1, by omega⟩
          rw [open_, if_pos (by rw [e1]), hc]
          simp only [Option.bind_some]
          rw [if_pos e2, is_s N P _ _ hN hP k (by unfold kIs at hk; omega)]
          simp only [Option.bind_some]
          rw [if_neg (by rw [decide_eq_false e3]; simp)]
          exact hr k (by omega)
      · obtain ⟨r, hr, hb⟩ := skip fun b ⟨g, h1, h2, h3, _, _, _⟩ => by
          rw [hgi] at h1
          obtain rfl := Option.some.inj h1
          have h2' : rdOf false out (i : Int) = true := Option.some.inj (hoi.symm.trans h2)
          apply e2
          rw [h2', Bool.true_and]
          cases q with
          | false => rfl
          | true => exact h3 rfl
        refine ⟨r, fun k hk => ?_, hb⟩
        obtain ⟨k, rfl⟩ : ∃ m, k = m + 1 := ⟨k - 1, by omega⟩
        rw [open_, if_pos (by rw [e1]), hc]
        simp only [Option.bind_some]
        rw [if_neg e2]
        exact hr k (by omega)
    · obtain ⟨r, hr, hb⟩ := skip fun b ⟨g, h1, _, _, h4, _, _⟩ => by rw [hgi] at h1; obtain rfl := Option.some.inj h1; exact e1 h4
      refine ⟨r, fun k hk => ?_, hb⟩
      obtain ⟨k, rfl⟩ : ∃ m, k = m + 1 := ⟨k - 1, by omega⟩
      rw [open_, if_neg (fun h => e1 (ba_eq.1 h))]
      exact hr k (by omega)
/-- Whether what is had is enough. -/
theorem had_s (l : List S43) (hl : Fits l) (q : Bool) (out : List Bool) (ho : out.length = l.length) (role table : ByteArray) (rights a0 a2 : Int) :
    ∃ r : Int, (∀ k, l.length + kIs N P + 1 ≤ k → grants_world_had.f k a0 T a2 N P l role table (q, out) = some r) ∧ (Go.bits .andNot .u8 rights r = 0 ↔ Covers N P l (fun j => out[j]? = some true) q role table rights) := by
  obtain ⟨r, hr, hb⟩ := had_l T N P hN hP l hl q out ho role table a0 a2 l.length 0 0 (by omega)
  refine ⟨r, fun k hk => hr k hk, ?_⟩
  rw [andNot_zero]
  refine forall_congr' fun b => forall_congr' fun hb8 => forall_congr' fun hx => ?_
  rw [hb b, bit_zero]
  constructor
  · rintro (h | ⟨m, _, hm⟩)
    · cases h
    · exact ⟨m, hm⟩
  · rintro ⟨m, hm⟩; exact Or.inr ⟨m, Nat.zero_le _, hm⟩
end
end Go.Proofs.Yteklimdjlihloaa.G
