/- What the functions of package row come to, over lists of values alone: a row's text, whether two are the same, which stands ahead, whether it fits. Conditions: as each theorem states them (few values, enough rounds). -/
import Derived.Test.YtddmllocjocipaaDoorTxt
import Derived.Test.YtddmllocjocipaaDoorOrd
import Derived.Test.YtddmllocjocipaaDoorDx19
namespace Go.Proofs.YtddmllocjocipaaDoor.D
open Go.RowKit Go.Proofs.YtddmllocjocipaaDoorW.PrintWords Go.Proofs.YtddmllocjocipaaDoorW.PrintLast Go.Proofs.YtddmllocjocipaaDoorW.PrintMore
set_option linter.unusedSimpArgs false
set_option linter.unusedVariables false
theorem rdT_nat {xs : List S23} {i : Nat} (h : i < xs.length) : rd_T23 xs (i : Int) = xs[i] := by simp [rd_T23, List.getD, h]
theorem rdC_nat {xs : List S65} {i : Nat} (h : i < xs.length) : rd_T65 xs (i : Int) = xs[i] := by simp [rd_T65, List.getD, h]
theorem wrap_up {i : Nat} (h : i < 4611686018427387904) : wrap64 ((i : Int) + 1) = ((i + 1 : Nat) : Int) := by unfold wrap64; omega
theorem fuel {k d : Nat} (h : d < k) : ∃ m, k = m + 1 ∧ d ≤ m := ⟨k - 1, by omega, by omega⟩
theorem rangeV {x : S23} (h : FitV x) : -9223372036854775808 ≤ x.f1 ∧ x.f1 ≤ 9223372036854775807 := by simpa [Lit.wf, IntKind.min, IntKind.max, IntKind.signed, IntKind.bits] using h.2.1
/-! ### how much a row is -/
theorem large_from (l : List S23) (hs : ∀ x ∈ l, x.f3.size ≤ 140737488355328) : ∀ (d k i n : Nat), 20000 ≤ n + d → d + 2 ≤ k → i ≤ l.length → 10 * i ≤ n → n ≤ 140737488400000 →
    ∃ b, covenantlaw05_large.l0 k l (n : Int) (i : Int) = some b ∧ (b = false → n + (l.length - i) < 20000 ∧ ∀ x ∈ l.drop i, x.f3.size < 20000)
  | d, k, i, n, h1, h2, h3, h4, h5 => by
    obtain ⟨m, rfl, hm⟩ := fuel (k := k) (d := d + 1) (by omega)
    simp only [covenantlaw05_large.l0]
    by_cases hi : (i : Int) < (l.length : Int)
    · rw [if_pos hi]
      by_cases hn : (n : Int) < 20000
      · have hi' : i < l.length := by omega
        have hx := hs _ (List.getElem_mem hi')
        have e1 : wrap64 (wrap64 ((n : Int) + 10) + (l[i].f3.size : Int)) = ((n + 10 + l[i].f3.size : Nat) : Int) := by unfold wrap64; omega
        rw [if_pos hn, if_pos (by omega), rdT_nat hi', e1, wrap_up (by omega)]
        cases d with
        | zero => omega
        | succ d =>
          obtain ⟨b, hb, hc⟩ := large_from l hs d m (i + 1) (n + 10 + l[i].f3.size) (by omega) (by omega) (by omega) (by omega) (by omega)
          refine ⟨b, hb, fun e => ?_⟩
          obtain ⟨c1, c2⟩ := hc e
          refine ⟨by omega, fun x hx2 => ?_⟩
          rw [List.drop_eq_getElem_cons hi'] at hx2
          rcases List.mem_cons.1 hx2 with rfl | hx2
          · omega
          · exact c2 x hx2
      · rw [if_neg hn]
        exact ⟨true, by rw [decide_eq_true (by omega)], fun e => by cases e⟩
    · rw [if_neg hi]
      refine ⟨_, rfl, fun e => ?_⟩
      have := of_decide_eq_false e
      refine ⟨by omega, fun x hx => ?_⟩
      rw [List.drop_of_length_le (by omega)] at hx
      cases hx
theorem large_spec (l : List S23) (hs : ∀ x ∈ l, x.f3.size ≤ 140737488355328) (k : Nat) (hk : 20002 ≤ k) :
    ∃ b, covenantlaw05_large.f k l = some b ∧ (b = false → l.length < 20000 ∧ ∀ x ∈ l, x.f3.size < 20000) := by
  obtain ⟨b, hb, hc⟩ := large_from l hs 20000 k 0 0 (by omega) (by omega) (by omega) (by omega) (by omega)
  refine ⟨b, hb, fun e => ?_⟩
  have := hc e
  rw [List.drop_zero] at this
  exact ⟨by omega, this.2⟩
/-! ### the same rows -/
theorem bytes_beq {a b : ByteArray} : (a.toList == b.toList) = true ↔ a = b := by
  rw [beq_iff_eq, ByteArray.toList_eq, ByteArray.toList_eq]
  exact ⟨fun h => ba_eq h, fun h => by rw [h]⟩
instance : DecidableEq S23 := fun a b =>
  if h : a.f0 = b.f0 ∧ a.f1 = b.f1 ∧ a.f2 = b.f2 ∧ (a.f3.toList == b.f3.toList) = true then isTrue (s23_ext h.1 h.2.1 h.2.2.1 (bytes_beq.1 h.2.2.2))
  else isFalse (fun e => h (by subst e; exact ⟨rfl, rfl, rfl, by simp⟩))
/-! ### which row stands ahead -/
/-! ### a row's text -/
def MayR (l : List S23) : Prop := ∀ x ∈ l, MayV x.f0 x.f1 x.f2 x.f3
instance (l : List S23) : Decidable (MayR l) := by unfold MayR; infer_instance
/-! ### whether a row fits -/
def FitsV (x : S23) (t : Int) : Prop := 1 ≤ t ∧ t ≤ 4 ∧ MayV x.f0 x.f1 x.f2 x.f3 ∧ (x.f0 = 0 ∨ x.f0 = t)
instance (x : S23) (t : Int) : Decidable (FitsV x t) := by unfold FitsV; infer_instance
theorem fits_val (x : S23) (t : Int) (hf : FitV x) : value_Fits.f x.f0 x.f1 x.f2 x.f3 t = some (decide (FitsV x t)) := by
  have r := rangeV hf
  have yes (h : FitsV x t) : (true : Bool) = decide (FitsV x t) := (decide_eq_true h).symm
  have no (h : ¬ FitsV x t) : (false : Bool) = decide (FitsV x t) := (decide_eq_false h).symm
  unfold value_Fits.f
  rw [may_spec _ _ _ _ r.1 r.2, Option.bind_some]
  by_cases q1 : 1 ≤ t
  · by_cases q2 : t ≤ 4
    · by_cases q3 : MayV x.f0 x.f1 x.f2 x.f3
      · rw [if_pos q1, if_pos q2, if_pos (decide_eq_true q3)]
        by_cases q4 : x.f0 = 0
        · rw [if_pos q4, yes ⟨q1, q2, q3, .inl q4⟩]
        · rw [if_neg q4]
          by_cases q5 : x.f0 = t
          · rw [← yes ⟨q1, q2, q3, .inr q5⟩]; simp [q5]
          · rw [← no (fun h => h.2.2.2.elim q4 q5)]; simp [q5]
      · rw [if_pos q1, if_pos q2, if_neg (by simpa using q3), no (fun h => q3 h.2.2.1)]
    · rw [if_pos q1, if_neg q2, no (fun h => q2 h.2.1)]
  · rw [if_neg q1, no (fun h => q1 h.1)]
def FitsR (l : List S23) (cs : List S65) : Prop := ∀ p ∈ l.zip cs, FitsV p.1 p.2.f1
instance (l : List S23) (cs : List S65) : Decidable (FitsR l cs) := by unfold FitsR; infer_instance
theorem fits_from (l : List S23) (cs : List S65) (hf : ∀ x ∈ l, FitV x) (hl : l.length = cs.length) (hn : l.length < 1000000) : ∀ (d k i : Nat), i + d = l.length → d < k →
    row_Fits.l0 k cs l (l.length : Int) (i : Int) = some (if FitsR (l.drop i) (cs.drop i) then 0 else 60)
  | 0, k, i, h, hk => by
    obtain ⟨m, rfl, _⟩ := fuel hk
    simp only [row_Fits.l0]
    rw [if_neg (by omega), List.drop_of_length_le (by omega), if_pos (show FitsR [] (cs.drop i) from fun p hp => by simp at hp)]
  | d + 1, k, i, h, hk => by
    obtain ⟨m, rfl, hm⟩ := fuel hk
    have hi : i < l.length := by omega
    have hi2 : i < cs.length := by omega
    simp only [row_Fits.l0]
    rw [if_pos (by omega), if_pos (by omega), if_pos (by omega), if_pos (by omega), rdT_nat hi, rdC_nat hi2, fits_val _ _ (hf _ (List.getElem_mem hi)), Option.bind_some, wrap_up (by omega), List.drop_eq_getElem_cons hi, List.drop_eq_getElem_cons hi2]
    by_cases e : FitsV l[i] cs[i].f1
    · rw [if_pos (decide_eq_true e), fits_from l cs hf hl hn d m (i + 1) (by omega) (by omega)]
      congr 1
      by_cases r : FitsR (l.drop (i + 1)) (cs.drop (i + 1))
      · rw [if_pos r, if_pos]
        intro p hp
        rw [List.zip_cons_cons] at hp
        rcases List.mem_cons.1 hp with rfl | hp
        · exact e
        · exact r p hp
      · rw [if_neg r, if_neg]
        intro hc
        exact r (fun p hp => hc p (by rw [List.zip_cons_cons]; exact List.mem_cons_of_mem _ hp))
    · rw [if_neg (by simpa using e), if_neg]
      intro hc
      exact e (hc (l[i], cs[i]) (by rw [List.zip_cons_cons]; exact List.mem_cons_self))
theorem row_fits (l : List S23) (cs : List S65) (hf : ∀ x ∈ l, FitV x) (hn : l.length < 1000000) (k : Nat) (hk : l.length < k) : row_Fits.f k l cs = some (if l.length = cs.length then (if FitsR l cs then 0 else 60) else 4) := by
  unfold row_Fits.f
  by_cases h : l.length = cs.length
  · rw [if_pos (by omega), if_pos h, show (0 : Int) = ((0 : Nat) : Int) from rfl, fits_from l cs hf h hn l.length k 0 (by omega) hk, List.drop_zero, List.drop_zero]
    rfl
  · rw [if_neg (by omega), if_neg h]
end Go.Proofs.YtddmllocjocipaaDoor.D
