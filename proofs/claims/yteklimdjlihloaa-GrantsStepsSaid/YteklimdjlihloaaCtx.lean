/- What the laws of this seat call, told over tokens: a state's slices are told by numbers; which lists they hold stands in a context. Conditions: as each theorem states them. -/
import Derived.Test.YteklimdjlihloaaSp5
import Derived.Test.YteklimdjlihloaaGx12
namespace Go.Proofs.Yteklimdjlihloaa.G
open Go.RowKit Go.Proofs.YteklimdjlihloaaW.PrintWords
open Classical
set_option linter.unusedVariables false
set_option linter.unusedSectionVars false
/-- The tables, names and pairs of a case, and the tokens of their slices. -/
structure CtxS where
  C : List S72
  N : List ByteArray
  P : List S66
  tN : Int
  tP : Int
  hC : C.length ≤ 2199023255552
  hN : N.length ≤ 8796093022208
  hP : P.length < 4611686018427387904
section
variable [Inhabited CtxS]
def X : CtxS := default
def XT : List S71 := X.C.map conv
/-- A token's slice holds a list. -/
def Tok {α : Type} (d : Kd α) (t : Int) (l : List α) (w : World) : Prop := ∃ A c, tokV t = .slice A l.length c ∧ l.length ≤ c ∧ Kd.C d w A l.length l
theorem Tok.keep {α : Type} {d : Kd α} {t : Int} {l : List α} {w w' : World} (h : Tok d t l w) (hb : Below w.heap.size w w') : Tok d t l w' := by
  obtain ⟨A, c, e, hc, hr⟩ := h
  exact ⟨A, c, e, hc, Kd.C_below hr hb⟩
/-- The case's names and pairs can be read, and its tables' columns. -/
structure SR (w : World) : Prop where
  N : Tok Kd.string X.tN X.N w
  P : Tok k66 X.tP X.P w
  T : TS XT w
theorem SR.keep {w w' : World} (h : SR w) (hb : Below w.heap.size w w') : SR w' := ⟨h.N.keep hb, h.P.keep hb, h.T.keep hb⟩
/-- works: the examples are as they are told. -/
theorem works_true (u_ : Int) : covenantlaw19_works.f u_ 4000 = some true := by kernel_rfl
def h_works.f : Option Bool := some true
theorem h_works.calls (r : Bool) (w : World) (h : h_works.f = some r) : Calls Try.prog 10 #[] w fun e w' => e = .returned (.bool r) ∧ Below w.heap.size w w' := by
  obtain rfl := Option.some.inj h
  exact covenantlaw19_works.calls 4000 true w works_true
/-- Whether a case is more than a statement goes through. -/
noncomputable def largeP (l : List S43) : Bool := if h : Fits l then (large_s X.C X.N X.P l 0 0 (by have := X.hN; unfold Fits; omega) X.hP h).choose else true
theorem largeP_small {l : List S43} (h : largeP l = false) : X.C.length ≤ 20 ∧ X.N.length ≤ 20 ∧ X.P.length ≤ 40 ∧ l.length ≤ 30 := by
  unfold largeP at h
  by_cases hf : Fits l
  · rw [dif_pos hf] at h
    exact (large_s X.C X.N X.P l 0 0 (by have := X.hN; unfold Fits; omega) X.hP hf).choose_spec.2 h
  · rw [dif_neg hf] at h
    cases h
theorem large_any (l : List S43) (a0 a2 b0 b2 : Int) (k : Nat) : covenantlaw19_Case_large.f k a0 X.C a2 X.N X.P l = covenantlaw19_Case_large.f k b0 X.C b2 X.N X.P l := by
  have h2 : ∀ k n i, covenantlaw19_Case_large.l2 k n i a0 X.C a2 X.N X.P l = covenantlaw19_Case_large.l2 k n i b0 X.C b2 X.N X.P l := by
    intro k
    induction k with
    | zero => intros; rfl
    | succ k ih => intro n i; simp only [covenantlaw19_Case_large.l2, ih]
  have h1 : ∀ k n i, covenantlaw19_Case_large.l1 k n i a0 X.C a2 X.N X.P l = covenantlaw19_Case_large.l1 k n i b0 X.C b2 X.N X.P l := by
    intro k
    induction k with
    | zero => intros; rfl
    | succ k ih => intro n i; simp only [covenantlaw19_Case_large.l1, ih, h2]
  have h0 : ∀ k n i, covenantlaw19_Case_large.l0 k n i a0 X.C a2 X.N X.P l = covenantlaw19_Case_large.l0 k n i b0 X.C b2 X.N X.P l := by
    intro k
    induction k with
    | zero => intros; rfl
    | succ k ih => intro n i; simp only [covenantlaw19_Case_large.l0, ih, h1]
  have hj : ∀ k b, covenantlaw19_Case_large.j0 k b a0 X.C a2 X.N X.P l = covenantlaw19_Case_large.j0 k b b0 X.C b2 X.N X.P l := by
    intro k b
    cases k with
    | zero => rfl
    | succ k => simp only [covenantlaw19_Case_large.j0, h0]
  simp only [covenantlaw19_Case_large.f, hj]
noncomputable def h_Case_large.f (a0_0 : Int) (l0_1 : List S72) (a0_2 : Int) (a0_3 : Int) (a0_4 : Int) (l0_5 : List S43) : Option Bool := if l0_1 = X.C ∧ a0_3 = X.tN ∧ a0_4 = X.tP ∧ Fits l0_5 then some (largeP l0_5) else none
theorem h_Case_large.calls (a0_0 : Int) (A0_1 : Option Addr) (c0_1 : Nat) (l0_1 : List S72) (a0_2 : Int) (a0_3 : Int) (a0_4 : Int) (A0_5 : Option Addr) (c0_5 : Nat) (l0_5 : List S43) (r : Bool) (w : World) (hr0_1 : Kd.C k72 w A0_1 l0_1.length l0_1) (hc0_1 : l0_1.length ≤ c0_1) (hr0_5 : Kd.C k43 w A0_5 l0_5.length l0_5) (hc0_5 : l0_5.length ≤ c0_5) (h : h_Case_large.f a0_0 l0_1 a0_2 a0_3 a0_4 l0_5 = some r) (hG : SR w) :
    Calls Try.prog 11 #[.agg #[.int .i64 a0_0, .slice A0_1 l0_1.length c0_1, tokV a0_2, tokV a0_3, tokV a0_4, .slice A0_5 l0_5.length c0_5]] w fun e w' => e = .returned (.bool r) ∧ Below w.heap.size w w' := by
  unfold h_Case_large.f at h
  split at h
  · rename_i hh
    obtain ⟨rfl, rfl, rfl, hl⟩ := hh
    obtain rfl := Option.some.inj h
    obtain ⟨A2, c2, e2, hc2, hr2⟩ := hG.N
    obtain ⟨A3, c3, e3, hc3, hr3⟩ := hG.P
    rw [e2, e3]
    refine covenantlaw19_Case_large.calls (l0_5.length + X.N.length + X.P.length + 5) a0_0 A0_1 c0_1 X.C a0_2 A2 c2 X.N A3 c3 X.P A0_5 c0_5 l0_5 _ w hr0_1 hc0_1 hr2 hc2 hr3 hc3 hr0_5 hc0_5 ?_
    unfold largeP
    rw [dif_pos hl, large_any l0_5 a0_0 a0_2 0 0]
    exact (large_s X.C X.N X.P l0_5 0 0 (by have := X.hN; unfold Fits; omega) X.hP hl).choose_spec.1 _ (by omega)
  · cases h
noncomputable def h_Is.f (a0_0 : Int) (a0_1 : Int) (a1 : ByteArray) (a2 : ByteArray) : Option (Bool) := if a0_0 = X.tN ∧ a0_1 = X.tP then some (decide (IsP X.N X.P a1 a2)) else none
theorem h_Is.calls (a0_0 : Int) (a0_1 : Int) (a1 : ByteArray) (a2 : ByteArray) (r : Bool) (w : World) (h : h_Is.f a0_0 a0_1 a1 a2 = some r) (hG : SR w) :
    Calls Try.prog 17 #[.agg #[tokV a0_0, tokV a0_1], .string a1, .string a2] w fun e w' => e = .returned (.bool r) ∧ Below w.heap.size w w' := by
  unfold h_Is.f at h
  split at h
  · rename_i hh
    obtain ⟨rfl, rfl⟩ := hh
    replace h := Option.some.inj h
    obtain ⟨A3, c3, e3, hc3, hr3⟩ := hG.N
    obtain ⟨A4, c4, e4, hc4, hr4⟩ := hG.P
    rw [e3, e4]
    exact roles_Is.calls _ A3 c3 X.N A4 c4 X.P a1 a2 r w hr3 hc3 hr4 hc4 ((is_s X.N X.P a1 a2 X.hN X.hP _ (Nat.le_refl _)).trans (congrArg some h))
  · cases h
noncomputable def h_All.f (a0_0 : Int) (l0_1 : List S71) (a0_2 : Int) (a1_0 : Int) (a1_1 : Int) (a2 : ByteArray) (a3 : ByteArray) : Option (Bool) := if l0_1 = XT ∧ a1_0 = X.tN ∧ a1_1 = X.tP then some (decide (AllP XT X.N X.P a2 a3)) else none
theorem h_All.calls (a0_0 : Int) (A0_1 : Option Addr) (c0_1 : Nat) (l0_1 : List S71) (a0_2 : Int) (a1_0 : Int) (a1_1 : Int) (a2 : ByteArray) (a3 : ByteArray) (r : Bool) (w : World) (hr0_1 : Kd.C k71 w A0_1 l0_1.length l0_1) (hc0_1 : l0_1.length ≤ c0_1) (h : h_All.f a0_0 l0_1 a0_2 a1_0 a1_1 a2 a3 = some r) (hG : SR w) :
    Calls Try.prog 18 #[.agg #[.int .i64 a0_0, .slice A0_1 l0_1.length c0_1, tokV a0_2], .agg #[tokV a1_0, tokV a1_1], .string a2, .string a3] w fun e w' => e = .returned (.bool r) ∧ Below w.heap.size w w' := by
  unfold h_All.f at h
  split at h
  · rename_i hh
    obtain ⟨rfl, rfl, rfl⟩ := hh
    replace h := Option.some.inj h
    obtain ⟨A3, c3, e3, hc3, hr3⟩ := hG.N
    obtain ⟨A4, c4, e4, hc4, hr4⟩ := hG.P
    rw [e3, e4]
    exact grants_All.calls _ a0_0 A0_1 c0_1 XT a0_2 A3 c3 X.N A4 c4 X.P a2 a3 r w hr0_1 hc0_1 hr3 hc3 hr4 hc4 ((all_s XT X.N X.P X.hN X.hP a2 a3 a0_0 a0_2 _ (Nat.le_refl _)).trans (congrArg some h)) hG.T
  · cases h
noncomputable def h_Counts.f (a0_0 : Int) (l0_1 : List S71) (a0_2 : Int) (a1_0 : Int) (a1_1 : Int) (l2 : List S43) : Option (List Bool) := if l0_1 = XT ∧ a1_0 = X.tN ∧ a1_1 = X.tP ∧ l2.length < 1000000000000 then some (countsP XT X.N X.P l2) else none
theorem h_Counts.calls (a0_0 : Int) (A0_1 : Option Addr) (c0_1 : Nat) (l0_1 : List S71) (a0_2 : Int) (a1_0 : Int) (a1_1 : Int) (A2 : Option Addr) (c2 : Nat) (l2 : List S43) (r : List Bool) (w : World) (hr0_1 : Kd.C k71 w A0_1 l0_1.length l0_1) (hc0_1 : l0_1.length ≤ c0_1) (hr2 : Kd.C k43 w A2 l2.length l2) (hc2 : l2.length ≤ c2) (h : h_Counts.f a0_0 l0_1 a0_2 a1_0 a1_1 l2 = some r) (hG : SR w) :
    Calls Try.prog 14 #[.agg #[.int .i64 a0_0, .slice A0_1 l0_1.length c0_1, tokV a0_2], .agg #[tokV a1_0, tokV a1_1], .slice A2 l2.length c2] w fun e w' => ∃ v0_ : Value, e = .returned (v0_) ∧ Kd.R Kd.bool 4 w' w.heap.size (fun _ => True) v0_ r ∧ Below w.heap.size w w' := by
  unfold h_Counts.f at h
  split at h
  · rename_i hh
    obtain ⟨rfl, rfl, rfl, hl⟩ := hh
    replace h := Option.some.inj h
    obtain ⟨A3, c3, e3, hc3, hr3⟩ := hG.N
    obtain ⟨A4, c4, e4, hc4, hr4⟩ := hG.P
    rw [e3, e4]
    exact grants_Counts.calls _ a0_0 A0_1 c0_1 XT a0_2 A3 c3 X.N A4 c4 X.P A2 c2 l2 r w hr0_1 hc0_1 hr3 hc3 hr4 hc4 hr2 hc2 ((Counts_s XT X.N X.P X.hN X.hP l2 (by unfold Fits; omega) a0_0 a0_2 (by omega) _ (Nat.le_refl _)).trans (congrArg some h)) hG.T
  · cases h
noncomputable def h_May.f (a0_0 : Int) (l0_1 : List S71) (a0_2 : Int) (a1_0 : Int) (a1_1 : Int) (l2 : List S43) (a3 : ByteArray) (a4 : ByteArray) (a5 : Int) : Option (Bool) := if l0_1 = XT ∧ a1_0 = X.tN ∧ a1_1 = X.tP ∧ l2.length < 1000000000000 then some (decide (MayP XT X.N X.P l2 false a3 a4 a5)) else none
theorem h_May.calls (a0_0 : Int) (A0_1 : Option Addr) (c0_1 : Nat) (l0_1 : List S71) (a0_2 : Int) (a1_0 : Int) (a1_1 : Int) (A2 : Option Addr) (c2 : Nat) (l2 : List S43) (a3 : ByteArray) (a4 : ByteArray) (a5 : Int) (r : Bool) (w : World) (hr0_1 : Kd.C k71 w A0_1 l0_1.length l0_1) (hc0_1 : l0_1.length ≤ c0_1) (hr2 : Kd.C k43 w A2 l2.length l2) (hc2 : l2.length ≤ c2) (h : h_May.f a0_0 l0_1 a0_2 a1_0 a1_1 l2 a3 a4 a5 = some r) (hG : SR w) :
    Calls Try.prog 15 #[.agg #[.int .i64 a0_0, .slice A0_1 l0_1.length c0_1, tokV a0_2], .agg #[tokV a1_0, tokV a1_1], .slice A2 l2.length c2, .string a3, .string a4, .int .u8 a5] w fun e w' => e = .returned (.bool r) ∧ Below w.heap.size w w' := by
  unfold h_May.f at h
  split at h
  · rename_i hh
    obtain ⟨rfl, rfl, rfl, hl⟩ := hh
    replace h := Option.some.inj h
    obtain ⟨A3, c3, e3, hc3, hr3⟩ := hG.N
    obtain ⟨A4, c4, e4, hc4, hr4⟩ := hG.P
    rw [e3, e4]
    exact grants_May.calls _ a0_0 A0_1 c0_1 XT a0_2 A3 c3 X.N A4 c4 X.P A2 c2 l2 a3 a4 a5 r w hr0_1 hc0_1 hr3 hc3 hr4 hc4 hr2 hc2 ((May_s XT X.N X.P X.hN X.hP l2 (by unfold Fits; omega) a0_0 a0_2 (by omega) a3 a4 a5 _ (Nat.le_refl _)).trans (congrArg some h)) hG.T
  · cases h
noncomputable def h_Pass.f (a0_0 : Int) (l0_1 : List S71) (a0_2 : Int) (a1_0 : Int) (a1_1 : Int) (l2 : List S43) (a3 : ByteArray) (a4 : ByteArray) (a5 : Int) : Option (Bool) := if l0_1 = XT ∧ a1_0 = X.tN ∧ a1_1 = X.tP ∧ l2.length < 1000000000000 then some (decide (MayP XT X.N X.P l2 true a3 a4 a5)) else none
theorem h_Pass.calls (a0_0 : Int) (A0_1 : Option Addr) (c0_1 : Nat) (l0_1 : List S71) (a0_2 : Int) (a1_0 : Int) (a1_1 : Int) (A2 : Option Addr) (c2 : Nat) (l2 : List S43) (a3 : ByteArray) (a4 : ByteArray) (a5 : Int) (r : Bool) (w : World) (hr0_1 : Kd.C k71 w A0_1 l0_1.length l0_1) (hc0_1 : l0_1.length ≤ c0_1) (hr2 : Kd.C k43 w A2 l2.length l2) (hc2 : l2.length ≤ c2) (h : h_Pass.f a0_0 l0_1 a0_2 a1_0 a1_1 l2 a3 a4 a5 = some r) (hG : SR w) :
    Calls Try.prog 16 #[.agg #[.int .i64 a0_0, .slice A0_1 l0_1.length c0_1, tokV a0_2], .agg #[tokV a1_0, tokV a1_1], .slice A2 l2.length c2, .string a3, .string a4, .int .u8 a5] w fun e w' => e = .returned (.bool r) ∧ Below w.heap.size w w' := by
  unfold h_Pass.f at h
  split at h
  · rename_i hh
    obtain ⟨rfl, rfl, rfl, hl⟩ := hh
    replace h := Option.some.inj h
    obtain ⟨A3, c3, e3, hc3, hr3⟩ := hG.N
    obtain ⟨A4, c4, e4, hc4, hr4⟩ := hG.P
    rw [e3, e4]
    exact grants_Pass.calls _ a0_0 A0_1 c0_1 XT a0_2 A3 c3 X.N A4 c4 X.P A2 c2 l2 a3 a4 a5 r w hr0_1 hc0_1 hr3 hc3 hr4 hc4 hr2 hc2 ((Pass_s XT X.N X.P X.hN X.hP l2 (by unfold Fits; omega) a0_0 a0_2 (by omega) a3 a4 a5 _ (Nat.le_refl _)).trans (congrArg some h)) hG.T
  · cases h
noncomputable def h_Give.f (a0_0 : Int) (l0_1 : List S71) (a0_2 : Int) (a1_0 : Int) (a1_1 : Int) (l2 : List S43) (a3 : ByteArray) (a4_0 : ByteArray) (a4_1 : ByteArray) (a4_2 : ByteArray) (a4_3 : Int) (a4_4 : Bool) : Option (List S43 × Int) := if l0_1 = XT ∧ a1_0 = X.tN ∧ a1_1 = X.tP ∧ l2.length < 1000000000000 then some (giveP XT X.N X.P l2 a3 ⟨a4_0, a4_1, a4_2, a4_3, a4_4⟩) else none
theorem h_Give.calls (a0_0 : Int) (A0_1 : Option Addr) (c0_1 : Nat) (l0_1 : List S71) (a0_2 : Int) (a1_0 : Int) (a1_1 : Int) (A2 : Option Addr) (c2 : Nat) (l2 : List S43) (a3 : ByteArray) (a4_0 : ByteArray) (a4_1 : ByteArray) (a4_2 : ByteArray) (a4_3 : Int) (a4_4 : Bool) (r1 : List (S43)) (r2 : Int) (w : World) (hr0_1 : Kd.C k71 w A0_1 l0_1.length l0_1) (hc0_1 : l0_1.length ≤ c0_1) (hr2 : Kd.C k43 w A2 l2.length l2) (hc2 : l2.length ≤ c2) (h : h_Give.f a0_0 l0_1 a0_2 a1_0 a1_1 l2 a3 a4_0 a4_1 a4_2 a4_3 a4_4 = some (r1, r2)) (hG : SR w) :
    Calls Try.prog 19 #[.agg #[.int .i64 a0_0, .slice A0_1 l0_1.length c0_1, tokV a0_2], .agg #[tokV a1_0, tokV a1_1], .slice A2 l2.length c2, .string a3, .agg #[.string a4_0, .string a4_1, .string a4_2, .int .u8 a4_3, .bool a4_4]] w fun e w' => ∃ v0_ : Value, e = .returned (.tuple #[v0_, .int .i64 r2]) ∧ Kd.R k43 43 w' w.heap.size (fun _ => True) v0_ r1 ∧ Below w.heap.size w w' := by
  unfold h_Give.f at h
  split at h
  · rename_i hh
    obtain ⟨rfl, rfl, rfl, hl⟩ := hh
    replace h := Option.some.inj h
    obtain ⟨A3, c3, e3, hc3, hr3⟩ := hG.N
    obtain ⟨A4, c4, e4, hc4, hr4⟩ := hG.P
    rw [e3, e4]
    exact grants_Give.calls _ a0_0 A0_1 c0_1 XT a0_2 A3 c3 X.N A4 c4 X.P A2 c2 l2 a3 a4_0 a4_1 a4_2 a4_3 a4_4 r1 r2 w hr0_1 hc0_1 hr3 hc3 hr4 hc4 hr2 hc2 ((give_s XT X.N X.P X.hN X.hP l2 hl a0_0 a0_2 a3 ⟨a4_0, a4_1, a4_2, a4_3, a4_4⟩ _ (Nat.le_refl _)).trans (congrArg some h)) hG.T
  · cases h
noncomputable def h_Take.f (a0_0 : Int) (l0_1 : List S71) (a0_2 : Int) (a1_0 : Int) (a1_1 : Int) (l2 : List S43) (a3 : ByteArray) (a4_0 : ByteArray) (a4_1 : ByteArray) (a4_2 : ByteArray) (a4_3 : Int) (a4_4 : Bool) (a5 : Bool) : Option (List S43 × Int) := if l0_1 = XT ∧ a1_0 = X.tN ∧ a1_1 = X.tP ∧ l2.length < 1000000000000 then some (takeP XT X.N X.P l2 a3 ⟨a4_0, a4_1, a4_2, a4_3, a4_4⟩ a5) else none
theorem h_Take.calls (a0_0 : Int) (A0_1 : Option Addr) (c0_1 : Nat) (l0_1 : List S71) (a0_2 : Int) (a1_0 : Int) (a1_1 : Int) (A2 : Option Addr) (c2 : Nat) (l2 : List S43) (a3 : ByteArray) (a4_0 : ByteArray) (a4_1 : ByteArray) (a4_2 : ByteArray) (a4_3 : Int) (a4_4 : Bool) (a5 : Bool) (r1 : List (S43)) (r2 : Int) (w : World) (hr0_1 : Kd.C k71 w A0_1 l0_1.length l0_1) (hc0_1 : l0_1.length ≤ c0_1) (hr2 : Kd.C k43 w A2 l2.length l2) (hc2 : l2.length ≤ c2) (h : h_Take.f a0_0 l0_1 a0_2 a1_0 a1_1 l2 a3 a4_0 a4_1 a4_2 a4_3 a4_4 a5 = some (r1, r2)) (hG : SR w) :
    Calls Try.prog 20 #[.agg #[.int .i64 a0_0, .slice A0_1 l0_1.length c0_1, tokV a0_2], .agg #[tokV a1_0, tokV a1_1], .slice A2 l2.length c2, .string a3, .agg #[.string a4_0, .string a4_1, .string a4_2, .int .u8 a4_3, .bool a4_4], .bool a5] w fun e w' => ∃ v0_ : Value, e = .returned (.tuple #[v0_, .int .i64 r2]) ∧ Kd.R k43 43 w' w.heap.size (fun _ => True) v0_ r1 ∧ Below w.heap.size w w' := by
  unfold h_Take.f at h
  split at h
  · rename_i hh
    obtain ⟨rfl, rfl, rfl, hl⟩ := hh
    replace h := Option.some.inj h
    obtain ⟨A3, c3, e3, hc3, hr3⟩ := hG.N
    obtain ⟨A4, c4, e4, hc4, hr4⟩ := hG.P
    rw [e3, e4]
    exact grants_Take.calls _ a0_0 A0_1 c0_1 XT a0_2 A3 c3 X.N A4 c4 X.P A2 c2 l2 a3 a4_0 a4_1 a4_2 a4_3 a4_4 a5 r1 r2 w hr0_1 hc0_1 hr3 hc3 hr4 hc4 hr2 hc2 ((take_s XT X.N X.P X.hN X.hP l2 hl a0_0 a0_2 a3 ⟨a4_0, a4_1, a4_2, a4_3, a4_4⟩ a5 _ (Nat.le_refl _)).trans (congrArg some h)) hG.T
  · cases h
end
end Go.Proofs.Yteklimdjlihloaa.G
