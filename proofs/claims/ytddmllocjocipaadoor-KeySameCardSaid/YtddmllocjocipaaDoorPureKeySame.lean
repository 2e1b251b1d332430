/- The law KeySame, over lists of values alone. Conditions: as each theorem states them. -/
import Derived.Test.YtddmllocjocipaaDoorKey
import Derived.Test.YtddmllocjocipaaDoorRowBk
import Derived.Test.YtddmllocjocipaaDoorDx42
namespace Go.Proofs.YtddmllocjocipaaDoor.D
open Go.RowKit Go.Proofs.YtddmllocjocipaaDoorW.PrintWords Go.Proofs.YtddmllocjocipaaDoorW.PrintLast Go.Proofs.YtddmllocjocipaaDoorW.PrintMore
set_option linter.unusedSimpArgs false
set_option linter.unusedVariables false
theorem rowText_inj {a b : List S23} (ha : ∀ x ∈ a, FitV x) (hb : ∀ x ∈ b, FitV x) (ma : MayR a) (mb : MayR b) (h : textR a = textR b) : a = b := by
  have p := parse_textR a ha ma
  rw [h, parse_textR b hb mb] at p
  exact (Prod.mk.inj p).1.symm
theorem kSame_l1 (a b c x : List S23) (hx : ∀ v ∈ x, FitV v) (hn : x.length ≤ 60) (j : Int) (K : Nat) (h : MayR x → ∀ k, K ≤ k → kSame.l0 k a b c (wrap64 (j + 1)) = some true) : ∀ (d i : Nat), i + d = x.length → (∀ v ∈ x.take i, MayV v.f0 v.f1 v.f2 v.f3) → ∀ k, K + d + 1 ≤ k → kSame.l1 k a b c x (i : Int) j = some true
  | d, i, hd, ht, k, hk => by
    obtain ⟨k, rfl⟩ : ∃ m, k = m + 1 := ⟨k - 1, by omega⟩
    simp only [kSame.l1]
    match d, hd with
    | 0, hd =>
      rw [if_neg (by omega)]
      refine h (fun v hv => ht v ?_) k (by omega)
      rw [List.take_of_length_le (by omega)]; exact hv
    | d + 1, hd =>
      have hi : i < x.length := by omega
      rw [if_pos (by omega), if_pos (by omega), rdT_nat hi, may_spec _ _ _ _ (rangeV (hx _ (List.getElem_mem hi))).1 (rangeV (hx _ (List.getElem_mem hi))).2, Option.bind_some, wrap_up (by omega)]
      by_cases m : MayV x[i].f0 x[i].f1 x[i].f2 x[i].f3
      · rw [if_pos (decide_eq_true m)]
        refine kSame_l1 a b c x hx hn j K h d (i + 1) (by omega) (fun v hv => ?_) k (by omega)
        rw [List.take_succ_eq_append_getElem hi] at hv
        rcases List.mem_append.1 hv with hv | hv
        · exact ht v hv
        · rw [List.mem_singleton.1 hv]; exact m
      · rw [if_neg (by simpa using m)]
theorem kSame_j3 (a b : List S23) (ha : ∀ x ∈ a, FitV x) (hb : ∀ x ∈ b, FitV x) (na : a.length ≤ 60) (nb : b.length ≤ 60) (ma : MayR a) (mb : MayR b) (k : Nat) (hk : 1000 ≤ k) : kSame.j3 k a b false = some true := by
  obtain ⟨k, rfl⟩ : ∃ m, k = m + 2 := ⟨k - 2, by omega⟩
  have hs : ∀ k, 900 ≤ k → key_Same.f k a b = some (wholeB a && (wholeB b && decide (a = b))) := fun k hk => keySame_spec a b k (by omega) (by omega)
  simp only [kSame.j3, kSame.j4]
  rw [if_neg (by decide)]
  unfold key_Whole.f
  simp only [Option.bind_some]
  rw [hs k (by omega)]
  cases hA : wholeB a with
  | false => simp
  | true =>
    cases hB : wholeB b with
    | false => simp
    | true =>
      unfold key_Text.f
      rw [row_text a ha (by omega) k (by omega), row_text b hb (by omega) k (by omega)]
      simp only [Option.bind_some, Bool.true_and, Bool.not_true, if_pos]
      rw [if_neg (by decide)]
      congr 1
      rw [tl_eq, tl_eq]
      by_cases e : a = b
      · subst e; simp
      · have : textR a ≠ textR b := fun h => e (rowText_inj ha hb ma mb h)
        simp [e, this]
theorem kSame_last (a b c : List S23) (ha : ∀ x ∈ a, FitV x) (hb : ∀ x ∈ b, FitV x) (na : a.length ≤ 60) (nb : b.length ≤ 60) (ma : MayR a) (mb : MayR b) (k : Nat) (hk : 2000 ≤ k) : kSame.l0 k a b c 3 = some true := by
  obtain ⟨k, rfl⟩ : ∃ m, k = m + 1 := ⟨k - 1, by omega⟩
  have hs : ∀ x y : List S23, x.length ≤ 60 → key_Same.f k x y = some (wholeB x && (wholeB y && decide (x = y))) := fun x y hx => keySame_spec x y k (by omega) (by omega)
  simp only [kSame.l0]
  rw [if_neg (by decide), hs a a na, hs a b na, hs b a nb, hs b c nb, hs a c na, kSame_j3 a b ha hb na nb ma mb k (by omega)]
  unfold key_Whole.f
  simp only [Option.bind_some]
  have e1 : (wholeB a && (wholeB a && decide True)) = wholeB a := by simp
  have e2 : (wholeB b && (wholeB a && decide (b = a))) = (wholeB a && (wholeB b && decide (a = b))) := by
    rw [show decide (b = a) = decide (a = b) from decide_eq_decide.2 eq_comm]
    cases wholeB a <;> cases wholeB b <;> rfl
  rw [e1, e2, if_neg (by simp), if_neg (by simp)]
  by_cases h1 : (wholeB a && (wholeB b && decide (a = b))) = true
  · rw [if_pos h1]
    by_cases h2 : (wholeB b && (wholeB c && decide (b = c))) = true
    · rw [if_pos h2]
      simp only [Bool.and_eq_true, decide_eq_true_eq] at h1 h2
      obtain ⟨w1, w2, rfl⟩ := h1
      obtain ⟨_, w3, rfl⟩ := h2
      rw [w1, decide_eq_true rfl]
      exact kSame_j3 a a ha ha na na ma ma k (by omega)
    · rw [if_neg h2]
  · rw [if_neg h1]
theorem KeySame_pure (a b c : List S23) (ha : ∀ x ∈ a, FitV x) (hb : ∀ x ∈ b, FitV x) (hc : ∀ x ∈ c, FitV x) : kSame.f 100000 a b c = some true := by
  have out : kSame.j0 100000 a b c true = some true := by
    rw [kSame.j0, if_pos rfl]
    rfl
  obtain ⟨p, hp, hp2⟩ := long_spec a 100000 (by omega)
  obtain ⟨q, hq, hq2⟩ := long_spec b 100000 (by omega)
  obtain ⟨r, hr, hr2⟩ := long_spec c 100000 (by omega)
  unfold kSame.f
  rw [hp, Option.bind_some]
  cases p with
  | true => rw [if_pos rfl]; exact out
  | false =>
    rw [if_neg (by decide), hq, Option.bind_some]
    cases q with
    | true => rw [if_pos rfl]; exact out
    | false =>
      rw [if_neg (by decide), hr, Option.bind_some]
      cases r with
      | true => rw [if_pos rfl]; exact out
      | false =>
        have la := hp2 rfl
        have lb := hq2 rfl
        have lc := hr2 rfl
        rw [if_neg (by decide), show covenantlaw06_awake.f = some true from rfl, Option.bind_some, kSame.j0, if_neg (by decide)]
        have step : ∀ (j : Nat) (x : List S23) (K : Nat), j < 3 → pick3 (j : Int) a b c = x → (∀ v ∈ x, FitV v) → x.length ≤ 60 → (MayR x → ∀ k, K ≤ k → kSame.l0 k a b c ((j + 1 : Nat) : Int) = some true) → ∀ k, K + 70 ≤ k → kSame.l0 k a b c (j : Int) = some true := by
          intro j x K hj hp hx hl h k hk
          obtain ⟨k, rfl⟩ : ∃ m, k = m + 1 := ⟨k - 1, by omega⟩
          rw [kSame.l0, if_pos (by omega), hp, show (0 : Int) = ((0 : Nat) : Int) from rfl]
          refine kSame_l1 a b c x hx hl (j : Int) K (fun m k hk => ?_) x.length 0 (by omega) (fun v hv => by cases hv) k (by omega)
          rw [wrap_up (by omega)]
          exact h m k hk
        exact step 0 a 2140 (by omega) rfl ha la (fun ma => step 1 b 2070 (by omega) rfl hb lb (fun mb => step 2 c 2000 (by omega) rfl hc lc (fun _ k hk => kSame_last a b c ha hb la lb ma mb k hk))) 99999 (by omega)
end Go.Proofs.YtddmllocjocipaaDoor.D
