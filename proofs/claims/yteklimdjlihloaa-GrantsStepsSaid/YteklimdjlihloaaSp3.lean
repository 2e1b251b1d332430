/- What counts, Counts, May and Pass come to: the least set of grants that is closed under counting. Conditions: as each theorem states them. -/
import Derived.Test.YteklimdjlihloaaSp2
namespace Go.Proofs.Yteklimdjlihloaa.G
open Go.RowKit Go.Proofs.YteklimdjlihloaaW.PrintWords
open Classical
/-- How many are left. -/
def left (out : List Bool) : Nat := out.count false
theorem left_set (out : List Bool) (i : Nat) (h : i < out.length) (hf : out[i] = false) : left (out.set i true) + 1 = left out := by
  unfold left
  rw [List.count_set h, hf]
  have : 0 < out.count false := List.count_pos_iff.2 (hf ▸ List.getElem_mem h)
  simp
  omega
section
variable (T : List S71) (N : List ByteArray) (P : List S66) (hN : N.length ≤ 8796093022208) (hP : Fits P)
variable (l : List S43) (hl : Fits l) (a0 a2 : Int)
/-- The rounds of one pass. -/
def kPass : Nat := 3 * l.length + kIs N P + N.length + 10
/-- What is known while counts runs. -/
def OutInv (out : List Bool) : Prop := out.length = l.length ∧ ∀ i, out[i]? = some true → CntP T N P l i
include hN hP hl
theorem cnt_in (R : Nat) (out : List Bool) (hI : OutInv T N P l out)
    (IH : ∀ out', OutInv T N P l out' → left out' < left out → ∀ k, R ≤ k → grants_world_counts.l0 k out' a0 T a2 N P l = some (countsP T N P l)) :
    ∀ (d i : Nat), i + d = l.length → (∀ m, m < i → StepP T N P l (fun j => out[j]? = some true) m → out[m]? = some true) →
      ∀ k, 2 * d + R + l.length + kIs N P + N.length + 5 ≤ k → grants_world_counts.l1 k out l (l.length : Int) (i : Int) a0 T a2 N P l = some (countsP T N P l)
  | 0, i, h, hS, k, hk => by
    obtain ⟨k, rfl⟩ : ∃ m, k = m + 1 := ⟨k - 1, by omega⟩
    simp only [grants_world_counts.l1]
    rw [if_neg (by omega)]
    refine congrArg some (List.ext_getElem? fun m => ?_)
    by_cases hm : m < l.length
    · rw [countsP_get T N P l m hm]
      have hmo : m < out.length := by rw [hI.1]; exact hm
      rw [List.getElem?_eq_getElem hmo]
      refine congrArg some ?_
      by_cases hc : CntP T N P l m
      · rw [decide_eq_true hc]
        have := hc (fun j => out[j]? = some true) fun j hj => hS j (by
          obtain ⟨g, hg, _⟩ := hj
          have := (List.getElem?_eq_some_iff.1 hg).1
          omega) hj
        rw [List.getElem?_eq_getElem hmo] at this
        exact Option.some.inj this
      · rw [decide_eq_false hc]
        cases ho : out[m] with
        | false => rfl
        | true => exact absurd (hI.2 m (by rw [List.getElem?_eq_getElem hmo, ho])) hc
    · rw [List.getElem?_eq_none (by rw [hI.1]; omega), List.getElem?_eq_none (by rw [countsP_length]; omega)]
  | d + 1, i, h, hS, k, hk => by
    have hi : i < l.length := by omega
    have hio : i < out.length := by rw [hI.1]; exact hi
    have hf : l.length < 4611686018427387904 := hl
    have hgi : l[i]? = some l[i] := List.getElem?_eq_getElem hi
    obtain ⟨k, rfl⟩ : ∃ m, k = m + 2 := ⟨k - 2, by omega⟩
    have next : (StepP T N P l (fun j => out[j]? = some true) i → out[i]? = some true) → grants_world_counts.l1 k out l (l.length : Int) (wrap64 ((i : Int) + 1)) a0 T a2 N P l = some (countsP T N P l) := by
      intro hs
      rw [wrapN i (by omega)]
      refine cnt_in R out hI IH d (i + 1) (by omega) (fun m hm => ?_) k (by omega)
      by_cases e : m = i
      · subst e; exact hs
      · exact hS m (by omega)
    have skip : (StepP T N P l (fun j => out[j]? = some true) i → out[i]? = some true) → grants_world_counts.j2 (k + 1) out (i : Int) l (l.length : Int) (i : Int) true a0 T a2 N P l (l[i].f0) (l[i].f1) (l[i].f2) (l[i].f3) (l[i].f4) = some (countsP T N P l) := by
      intro hs
      simp only [grants_world_counts.j2]
      rw [if_pos trivial]
      exact next hs
    rw [grants_world_counts.l1, if_pos (by omega), if_pos (by omega), if_pos (by omega), if_pos (by omega), rd43_nat l i hi, rdOf_nat false out i hio]
    by_cases e1 : out[i] = true
    · rw [if_pos e1]
      exact skip fun _ => by rw [List.getElem?_eq_getElem hio, e1]
    · rw [if_neg e1]
      replace e1 := Bool.eq_false_iff.mpr e1
      rw [formed_s T N P hN l l[i] a0 a2 (k + 1) (by omega)]
      simp only [Option.bind_some]
      by_cases e2 : FormedP T N l[i]
      · rw [decide_eq_true e2]
        simp only [grants_world_counts.j2]
        rw [if_neg (by simp), all_s T N P hN hP _ _ a0 a2 k (by omega)]
        simp only [Option.bind_some]
        have hset : StepP T N P l (fun j => out[j]? = some true) i → grants_world_counts.l0 k (out.set ((i : Int)).toNat true) a0 T a2 N P l = some (countsP T N P l) := by
          intro hs
          rw [Int.toNat_natCast]
          refine IH (out.set i true) ⟨by rw [List.length_set, hI.1], fun m hm => ?_⟩ (by have := left_set out i hio e1; omega) k (by omega)
          by_cases e : m = i
          · subst e
            exact CntP.step T N P (hs.mono T N P fun j hj => hI.2 j hj)
          · rw [List.getElem?_set_ne (fun h => e h.symm)] at hm
            exact hI.2 m hm
        by_cases e3 : AllP T N P l[i].f0 l[i].f2
        · rw [if_pos (decide_eq_true e3), if_pos (by omega), if_pos (by omega)]
          exact hset ⟨l[i], hgi, e2, Or.inl e3⟩
        · rw [if_neg (by rw [decide_eq_false e3]; simp)]
          obtain ⟨r, hr, hc⟩ := had_s T N P hN hP l hl true out hI.1 l[i].f0 l[i].f2 l[i].f3 a0 a2
          rw [hr k (by omega)]
          simp only [Option.bind_some]
          by_cases e4 : Go.bits .andNot .u8 (l[i].f3) r = 0
          · rw [if_pos e4, if_pos (by omega), if_pos (by omega)]
            exact hset ⟨l[i], hgi, e2, Or.inr (hc.1 e4)⟩
          · rw [if_neg e4]
            refine next fun ⟨g, h1, _, h3⟩ => ?_
            rw [hgi] at h1
            obtain rfl := Option.some.inj h1
            exact absurd (hc.2 (h3.resolve_left e3)) e4
      · rw [decide_eq_false e2]
        exact skip fun ⟨g, h1, h2, _⟩ => by rw [hgi] at h1; obtain rfl := Option.some.inj h1; exact absurd h2 e2
theorem cnt_out : ∀ (m : Nat) (out : List Bool), left out ≤ m → OutInv T N P l out → ∀ k, (m + 1) * kPass N P l ≤ k → grants_world_counts.l0 k out a0 T a2 N P l = some (countsP T N P l) := by
  intro m
  induction m with
  | zero =>
    intro out hm hI k hk
    unfold kPass at hk
    obtain ⟨k, rfl⟩ : ∃ m, k = m + 1 := ⟨k - 1, by omega⟩
    simp only [grants_world_counts.l0]
    refine cnt_in T N P hN hP l hl a0 a2 0 out hI (fun out' _ h => by omega) l.length 0 (by omega) (fun m hm => absurd hm (Nat.not_lt_zero m)) k (by omega)
  | succ m ih =>
    intro out hm hI k hk
    have hk2 : (m + 1 + 1) * kPass N P l = (m + 1) * kPass N P l + kPass N P l := by rw [Nat.add_mul (m + 1), Nat.one_mul]
    have hk3 : kPass N P l = 3 * l.length + kIs N P + N.length + 10 := rfl
    obtain ⟨k, rfl⟩ : ∃ m, k = m + 1 := ⟨k - 1, by omega⟩
    simp only [grants_world_counts.l0]
    refine cnt_in T N P hN hP l hl a0 a2 ((m + 1) * kPass N P l) out hI (fun out' hI' h k' hk' => ih out' (by omega) hI' k' hk') l.length 0 (by omega) (fun m hm => absurd hm (Nat.not_lt_zero m)) k (by omega)
/-- The rounds that are enough for counts. -/
def kCnt : Nat := (l.length + 1) * kPass N P l + l.length + kIs N P + 10
theorem counts_s (hl2 : l.length ≤ 281474976710656) : ∀ k, kCnt N P l ≤ k → grants_world_counts.f k a0 T a2 N P l = some (countsP T N P l) := by
  intro k hk
  unfold grants_world_counts.f
  rw [if_pos (by omega), Int.toNat_natCast, if_pos hl2]
  refine cnt_out T N P hN hP l hl a0 a2 l.length _ ?_ ⟨List.length_replicate, fun i hi => ?_⟩ k (by unfold kCnt at hk; omega)
  · unfold left
    exact Nat.le_trans List.count_le_length (Nat.le_of_eq List.length_replicate)
  · rw [List.getElem?_replicate] at hi
    split at hi <;> simp at hi
theorem Counts_s (hl2 : l.length ≤ 281474976710656) : ∀ k, kCnt N P l ≤ k → grants_Counts.f k a0 T a2 N P l = some (countsP T N P l) := by
  intro k hk
  unfold grants_Counts.f
  rw [counts_s T N P hN hP l hl a0 a2 hl2 k hk]
  rfl
omit hN hP hl in
theorem countsP_true (i : Nat) : (countsP T N P l)[i]? = some true ↔ i < l.length ∧ CntP T N P l i := by
  by_cases h : i < l.length
  · rw [countsP_get T N P l i h]; simp [h]
  · rw [List.getElem?_eq_none (by rw [countsP_length]; omega)]; simp [h]
theorem may_s (hl2 : l.length ≤ 281474976710656) (q : Bool) (role table : ByteArray) (rights : Int) : ∀ k, kCnt N P l + 1 ≤ k → grants_world_may.f k a0 T a2 N P l role table rights q = some (decide (MayP T N P l q role table rights)) := by
  intro k hk
  have hk0 : kCnt N P l = (l.length + 1) * kPass N P l + l.length + kIs N P + 10 := rfl
  have hle := kIs_le N P
  obtain ⟨k, rfl⟩ : ∃ m, k = m + 1 := ⟨k - 1, by omega⟩
  unfold grants_world_may.f
  rw [find_s]
  simp only [Option.bind_some]
  cases hf : FindP T table with
  | none =>
    simp only [Bool.false_eq_true, if_false, grants_world_may.j0, if_true]
    rw [decide_eq_false]
    rintro ⟨⟨t, ht⟩, _⟩
    rw [hf] at ht
    cases ht
  | some t =>
    simp only [if_true]
    rw [has_s N P _ (by unfold Fits; omega) (k + 1) (by omega)]
    simp only [Option.bind_some, grants_world_may.j0]
    by_cases h1 : role ∈ N
    · rw [decide_eq_true h1, if_neg (by simp), all_s T N P hN hP _ _ a0 a2 k (by omega)]
      simp only [Option.bind_some]
      by_cases h2 : AllP T N P role table
      · rw [if_pos (decide_eq_true h2), decide_eq_true ⟨⟨t, hf⟩, h1, Or.inl h2⟩]
      · rw [if_neg (by rw [decide_eq_false h2]; simp), counts_s T N P hN hP l hl a0 a2 hl2 k (by omega)]
        simp only [Option.bind_some]
        obtain ⟨r, hr, hc⟩ := had_s T N P hN hP l hl q (countsP T N P l) (countsP_length T N P l) role table rights a0 a2
        rw [hr k (by omega)]
        simp only [Option.bind_some]
        have hS : (Covers N P l (fun j => (countsP T N P l)[j]? = some true) q role table rights) ↔ Covers N P l (CntP T N P l) q role table rights := by
          constructor
          · exact Covers.mono N P fun i hi => ((countsP_true T N P l i).1 hi).2
          · intro hh b hb hx
            obtain ⟨m, g, h3, h4, h5⟩ := hh b hb hx
            exact ⟨m, g, h3, (countsP_true T N P l m).2 ⟨(List.getElem?_eq_some_iff.1 h3).1, h4⟩, h5⟩
        refine congrArg some ?_
        by_cases h3 : Covers N P l (CntP T N P l) q role table rights
        · rw [decide_eq_true ⟨⟨t, hf⟩, h1, Or.inr h3⟩, hc.2 (hS.2 h3)]; rfl
        · rw [decide_eq_false fun h => h3 (h.2.2.resolve_left h2)]
          exact beq_eq_false_iff_ne.2 fun e => h3 (hS.1 (hc.1 e))
    · rw [decide_eq_false h1, if_pos (by simp), decide_eq_false fun h => h1 h.2.1]
theorem May_s (hl2 : l.length ≤ 281474976710656) (role table : ByteArray) (rights : Int) : ∀ k, kCnt N P l + 1 ≤ k → grants_May.f k a0 T a2 N P l role table rights = some (decide (MayP T N P l false role table rights)) := by
  intro k hk
  unfold grants_May.f
  rw [may_s T N P hN hP l hl a0 a2 hl2 false role table rights k hk]
  rfl
theorem Pass_s (hl2 : l.length ≤ 281474976710656) (role table : ByteArray) (rights : Int) : ∀ k, kCnt N P l + 1 ≤ k → grants_Pass.f k a0 T a2 N P l role table rights = some (decide (MayP T N P l true role table rights)) := by
  intro k hk
  unfold grants_Pass.f
  rw [may_s T N P hN hP l hl a0 a2 hl2 true role table rights k hk]
  rfl
end
end Go.Proofs.Yteklimdjlihloaa.G
