/- The number by whose digits a text begins, as the document reads it. Conditions: as each theorem states them (enough rounds). -/
import Derived.Test.YtddmllocjocipaaDoorRef
import Derived.Test.YtddmllocjocipaaDoorDx31
namespace Go.Proofs.YtddmllocjocipaaDoor.D
open Go.RowKit Go.Proofs.YtddmllocjocipaaDoorW.PrintWords Go.Proofs.YtddmllocjocipaaDoorW.PrintLast Go.Proofs.YtddmllocjocipaaDoorW.PrintMore
set_option linter.unusedSimpArgs false
set_option linter.unusedVariables false
def Rng (v : Int) : Prop := -9223372036854775808 ≤ v ∧ v ≤ 9223372036854775807
theorem rng_wrap (v : Int) : Rng (wrap64 v) := by unfold Rng wrap64; omega
def stp (v : Int) (c : UInt8) : Int := wrap64 ((wrap64 (v * 10)) - (((c.toNat : Int) - 48) % 256))
def runN : List UInt8 → Int → Nat × Int
  | [], v => (0, v)
  | c :: t, v => if 48 ≤ c.toNat ∧ c.toNat ≤ 57 then ((runN t (stp v c)).1 + 1, (runN t (stp v c)).2) else (0, v)
theorem run_rng : ∀ (l : List UInt8) (v : Int), Rng v → Rng (runN l v).2
  | [], v, h => h
  | c :: t, v, h => by
    unfold runN
    split
    · exact run_rng t _ (rng_wrap _)
    · exact h
theorem run_digits : ∀ (a b : List UInt8) (v : Int), (∀ c ∈ a, 48 ≤ c.toNat ∧ c.toNat ≤ 57) → (∀ c, b.head? = some c → ¬ (48 ≤ c.toNat ∧ c.toNat ≤ 57)) → runN (a ++ b) v = (a.length, a.foldl stp v)
  | [], [], v, _, _ => rfl
  | [], c :: b, v, _, h => by
    rw [List.nil_append]; unfold runN; rw [if_neg (h c rfl)]; rfl
  | c :: a, b, v, ha, hb => by
    rw [List.cons_append, runN, if_pos (ha c (by simp)), run_digits a b (stp v c) (fun x hx => ha x (by simp [hx])) hb]
    rfl
theorem dec_fold (u : Nat) (hu : u ≤ 9223372036854775808) : (Lib.decDigits u).foldl stp 0 = -(u : Int) := by
  induction u using Nat.strongRecOn with
  | _ u ih =>
    rw [Lib.decDigits]
    split
    · next h => simp only [List.foldl_cons, List.foldl_nil, stp]; rw [byte48 h]; unfold wrap64; omega
    · next h => rw [List.foldl_append, ih (u / 10) (by omega) (by omega), List.foldl_cons, List.foldl_nil, stp, byte48 (by omega)]; unfold wrap64; omega
def negH (L : List UInt8) : Bool := L.head? == some 45
def oneI (L : List UInt8) (m : Nat) : Nat × Int := runN ((L.take m).drop (if negH L then 1 else 0)) 0
def oneV (L : List UInt8) (m : Nat) : Int := if negH L then (oneI L m).2 else wrap64 (-(oneI L m).2)
def numN (L : List UInt8) : Nat → Int × Int
  | 0 => (0, 0)
  | m + 1 => if (if negH L then 1 else 0) + (oneI L (m + 1)).1 = m + 1 ∧ Lib.itoa (oneV L (m + 1)) = L.take (m + 1) then (oneV L (m + 1), ((m + 1 : Nat) : Int)) else numN L m
theorem num_rng (L : List UInt8) : ∀ m, Rng (numN L m).1 ∧ 0 ≤ (numN L m).2 ∧ (numN L m).2 ≤ m
  | 0 => ⟨by unfold numN Rng; omega, by unfold numN; omega, by unfold numN; omega⟩
  | m + 1 => by
    have ih := num_rng L m
    unfold numN
    by_cases c : (if negH L then 1 else 0) + (oneI L (m + 1)).1 = m + 1 ∧ Lib.itoa (oneV L (m + 1)) = L.take (m + 1)
    · rw [if_pos c]
      refine ⟨?_, by show (0 : Int) ≤ ((m + 1 : Nat) : Int); omega, Int.le_refl _⟩
      show Rng (oneV L (m + 1))
      unfold oneV oneI
      cases negH L with
      | true => exact run_rng _ _ (by unfold Rng; omega)
      | false => exact rng_wrap _
    · rw [if_neg c]
      exact ⟨ih.1, ih.2.1, by omega⟩
theorem num_one (n : Int) (hn : Rng n) (r : List UInt8) (hr : ∀ c, r.head? = some c → ¬ (48 ≤ c.toNat ∧ c.toNat ≤ 57)) (m : Nat) (hm : (Lib.itoa n).length ≤ m) :
    (if negH (Lib.itoa n ++ r) then 1 else 0) + (oneI (Lib.itoa n ++ r) m).1 = (Lib.itoa n).length ∧ oneV (Lib.itoa n ++ r) m = n := by
  have hr2 : ∀ j c, (r.take j).head? = some c → ¬ (48 ≤ c.toNat ∧ c.toNat ≤ 57) := by
    intro j c h
    cases j with
    | zero => rw [List.take_zero] at h; cases h
    | succ j =>
      cases r with
      | nil => cases h
      | cons d r => exact hr c h
  have ht : (Lib.itoa n ++ r).take m = Lib.itoa n ++ r.take (m - (Lib.itoa n).length) := by
    rw [List.take_append, List.take_of_length_le hm]
  unfold oneV oneI
  rw [ht]
  unfold Rng at hn
  by_cases h : n < 0
  · have e : Lib.itoa n = 45 :: Lib.decDigits n.natAbs := by unfold Lib.itoa; rw [if_pos h]
    have q : negH (Lib.itoa n ++ r) = true := by rw [e]; rfl
    rw [q, if_pos rfl, if_pos rfl, e, List.cons_append, List.drop_one, List.tail_cons, run_digits _ _ _ (dec_mem _) (hr2 _), dec_fold _ (by omega)]
    refine ⟨by simp only [List.length_cons]; omega, by simp only []; omega⟩
  · have e : Lib.itoa n = Lib.decDigits n.toNat := by unfold Lib.itoa; rw [if_neg h]
    have q : negH (Lib.itoa n ++ r) = false := by
      rw [e]
      unfold negH
      have h1 := dec_mem n.toNat
      have h2 := dec_ne n.toNat
      cases hd : Lib.decDigits n.toNat with
      | nil => exact absurd hd h2
      | cons c t =>
        have := h1 c (by rw [hd]; simp)
        rw [List.cons_append, List.head?_cons, beq_eq_false_iff_ne]
        intro e
        rw [Option.some.inj e] at this
        exact absurd this.1 (by decide)
    rw [q, if_neg (by decide), if_neg (by decide), e, List.drop_zero, run_digits _ _ _ (dec_mem _) (hr2 _), dec_fold _ (by omega)]
    refine ⟨by simp only []; omega, ?_⟩
    simp only []
    unfold wrap64
    omega
theorem num_hit (n : Int) (hn : Rng n) (r : List UInt8) (hr : ∀ c, r.head? = some c → ¬ (48 ≤ c.toNat ∧ c.toNat ≤ 57)) : ∀ m, (Lib.itoa n).length ≤ m → numN (Lib.itoa n ++ r) m = (n, ((Lib.itoa n).length : Int))
  | 0, hm => absurd (List.length_eq_zero_iff.1 (Nat.le_zero.1 hm)) (itoa_ne n)
  | m + 1, hm => by
    have o := num_one n hn r hr (m + 1) hm
    unfold numN
    rw [o.1, o.2]
    by_cases e : (Lib.itoa n).length = m + 1
    · rw [if_pos ⟨e, by rw [← e, List.take_left']; rfl⟩, e]
    · rw [if_neg (fun h => e h.1)]
      exact num_hit n hn r hr m (by omega)
theorem num_l1 (s : ByteArray) (m : Nat) (hm : m ≤ s.size) (hz : s.size ≤ 1000000000) (q : Bool) (r : Int × Int) (K : Nat) : ∀ (d i : Nat) (v : Int), i + d = m →
    (∀ k, K ≤ k → covenantref01_number.j3 k s m (runN ((s.data.toList.take m).drop i) v).2 q ((i + (runN ((s.data.toList.take m).drop i) v).1 : Nat) : Int) = some r) → ∀ k, K + d + 1 ≤ k → covenantref01_number.l1 k s m v q i = some r
  | d, i, v, h, hj, k, hk => by
    obtain ⟨k, rfl⟩ : ∃ j, k = j + 1 := ⟨k - 1, by omega⟩
    have hsl : s.data.toList.length = s.size := by simp
    simp only [covenantref01_number.l1]
    match d, h with
    | 0, h =>
      have e : (s.data.toList.take m).drop i = [] := List.drop_of_length_le (by rw [List.length_take]; omega)
      rw [e] at hj
      rw [if_neg (by omega)]
      exact hj k (by omega)
    | d + 1, h =>
      have e : (s.data.toList.take m).drop i = s.data.toList[i] :: (s.data.toList.take m).drop (i + 1) := by
        rw [List.drop_eq_getElem_cons (by rw [List.length_take]; omega), List.getElem_take]
      rw [e] at hj
      rw [if_pos (by omega), if_pos (by omega), if_pos (by omega), bt_nat (by omega : i < s.size)]
      rw [runN] at hj
      by_cases g : 48 ≤ s.data.toList[i].toNat ∧ s.data.toList[i].toNat ≤ 57
      · rw [if_pos (by omega), if_pos (by omega), show wrap64 ((i : Int) + 1) = ((i + 1 : Nat) : Int) by unfold wrap64; omega]
        rw [if_pos g] at hj
        refine num_l1 s m hm hz q r K d (i + 1) _ (by omega) (fun k hk => ?_) k (by omega)
        have := hj k hk
        rw [show i + ((runN ((s.data.toList.take m).drop (i + 1)) (stp v s.data.toList[i])).1 + 1) = i + 1 + (runN ((s.data.toList.take m).drop (i + 1)) (stp v s.data.toList[i])).1 by omega] at this
        exact this
      · rw [if_neg g] at hj
        by_cases g2 : (s.data.toList[i].toNat : Int) ≥ 48
        · rw [if_pos g2, if_neg (by omega)]; exact hj k (by omega)
        · rw [if_neg g2]; exact hj k (by omega)
theorem num_j3 (s : ByteArray) (m : Nat) (hm : m + 1 ≤ s.size) (hz : s.size ≤ 1000000000) (q : Bool) (r : Int × Int) (v : Int) (hv : Rng v) (i : Nat) (K : Nat)
    (h : ∀ k, K ≤ k → covenantref01_number.l0 k s (m : Int) = some r) : ∀ k, K + 31 ≤ k →
    covenantref01_number.j3 k s ((m + 1 : Nat) : Int) v q (i : Int) = some (if i = m + 1 ∧ Lib.itoa (if q then v else wrap64 (-v)) = s.data.toList.take (m + 1) then ((if q then v else wrap64 (-v)), ((m + 1 : Nat) : Int)) else r) := by
  intro k hk
  obtain ⟨k, rfl⟩ : ∃ j, k = j + 1 := ⟨k - 1, by omega⟩
  have hsl : s.data.toList.length = s.size := by simp
  have he : (s.extract 0 (m + 1)).data.toList = s.data.toList.take (m + 1) := by
    rw [ByteArray.data_extract, Array.toList_extract, List.extract_eq_take_drop]; simp
  have w1 : wrap64 (((m + 1 : Nat) : Int) - 1) = (m : Int) := by unfold wrap64; omega
  have hl := h k (by omega)
  have key : ∀ u : Int, Rng u → (if (i : Int) = ((m + 1 : Nat) : Int) then ((covenantref01_Digits.f k u).bind fun t => (if (0 : Int) ≤ ((m + 1 : Nat) : Int) then (if ((m + 1 : Nat) : Int) ≤ (s.size : Int) then (if t.toList = (s.extract 0 (((m + 1 : Nat) : Int) : Int).toNat).toList then (some (u, ((m + 1 : Nat) : Int))) else (covenantref01_number.l0 k s (wrap64 (((m + 1 : Nat) : Int) - 1)))) else none) else none)) else (covenantref01_number.l0 k s (wrap64 (((m + 1 : Nat) : Int) - 1)))) = some (if i = m + 1 ∧ Lib.itoa u = s.data.toList.take (m + 1) then (u, ((m + 1 : Nat) : Int)) else r) := by
    intro u hu
    rw [digits_spec k u hu.1 hu.2 (by omega), Option.bind_some, if_pos (by omega : (0 : Int) ≤ ((m + 1 : Nat) : Int)), if_pos (by omega : ((m + 1 : Nat) : Int) ≤ (s.size : Int)), Int.toNat_natCast, tl_eq, tl_eq, he, w1, hl]
    by_cases a : i = m + 1
    · rw [if_pos (by omega)]
      by_cases b : Lib.itoa u = s.data.toList.take (m + 1)
      · rw [if_pos (by simpa using b), if_pos ⟨a, b⟩]
      · rw [if_neg (by simpa using b), if_neg (fun h => b h.2)]
    · rw [if_neg (by omega), if_neg (fun h => a h.1)]
  simp only [covenantref01_number.j3]
  cases q with
  | true => exact key v hv
  | false => exact key (wrap64 (-v)) (rng_wrap _)
theorem num_l0 (s : ByteArray) (hz : s.size ≤ 1000000000) : ∀ (m k : Nat), m ≤ s.size → m ≤ 20 → m * 60 + 1 ≤ k → covenantref01_number.l0 k s (m : Int) = some (numN s.data.toList m)
  | 0, k, hm, h20, hk => by
    obtain ⟨k, rfl⟩ : ∃ j, k = j + 1 := ⟨k - 1, by omega⟩
    simp only [covenantref01_number.l0]
    rw [if_neg (by omega)]; rfl
  | m + 1, k, hm, h20, hk => by
    obtain ⟨k, rfl⟩ : ∃ j, k = j + 2 := ⟨k - 2, by omega⟩
    have hsl : s.data.toList.length = s.size := by simp
    have ih := num_l0 s hz m
    have h0 : bt s 0 = s.data.toList[0].toNat := bt_nat (by omega : 0 < s.size)
    have hh : s.data.toList.head? = some s.data.toList[0] := List.head?_eq_getElem? ▸ List.getElem?_eq_getElem (by omega)
    simp only [covenantref01_number.l0]
    rw [if_pos (by omega), if_pos (by omega), h0]
    simp only [covenantref01_number.j1]
    have go : ∀ (q : Bool) (i0 : Nat), negH s.data.toList = q → i0 = (if negH s.data.toList then 1 else 0) → covenantref01_number.l1 k s ((m + 1 : Nat) : Int) 0 q (i0 : Int) = some (numN s.data.toList (m + 1)) := by
      intro q i0 hq hi
      have hi1 : i0 ≤ 1 := by rw [hi]; split <;> omega
      refine num_l1 s (m + 1) hm hz q _ (m * 60 + 1 + 31) (m + 1 - i0) i0 0 (by omega) (fun k hk => ?_) k (by omega)
      rw [num_j3 s m hm hz q (numN s.data.toList m) _ (run_rng _ _ (by unfold Rng; omega)) _ (m * 60 + 1) (fun k hk => ih k (by omega) (by omega) hk) k hk]
      subst hi
      rw [numN]
      unfold oneV oneI
      rw [hq]
    by_cases c : s.data.toList[0] = 45
    · rw [if_pos (by rw [c]; rfl)]
      have q : negH s.data.toList = true := by unfold negH; rw [hh, c]; rfl
      have := go true 1 q (by rw [q]; rfl)
      rw [show ((s.data.toList[0].toNat : Int) == 45) = true by rw [c]; rfl]
      exact this
    · have c' : ¬ (s.data.toList[0].toNat : Int) = 45 := fun e => c (UInt8.toNat_inj.1 (show s.data.toList[0].toNat = (45 : UInt8).toNat from Int.ofNat.inj e))
      rw [if_neg c']
      have q : negH s.data.toList = false := by unfold negH; rw [hh, beq_eq_false_iff_ne]; exact fun e => c (Option.some.inj e)
      have := go false 0 q (by rw [q]; rfl)
      rw [show ((s.data.toList[0].toNat : Int) == 45) = false from beq_eq_false_iff_ne.2 c']
      exact this
/-- How far a number may reach. -/
def capN (L : List UInt8) : Nat := min L.length 20
theorem number_spec (k : Nat) (s : ByteArray) (hz : s.size ≤ 1000000000) (hk : 1201 ≤ k) : covenantref01_number.f k s = some (numN s.data.toList (capN s.data.toList)) := by
  have hsl : s.data.toList.length = s.size := by simp
  unfold covenantref01_number.f
  have e : mn (s.size : Int) 20 = ((capN s.data.toList : Nat) : Int) := by unfold mn capN; rw [hsl]; omega
  rw [e]
  refine num_l0 s hz _ k ?_ ?_ ?_
  · unfold capN; omega
  · unfold capN; omega
  · unfold capN; omega
end Go.Proofs.YtddmllocjocipaaDoor.D
