/- Which of two values, and of two rows, stands ahead: each is an order. Conditions: none. -/
import Derived.Test.YtddmllocjocipaaDoorCmp
namespace Go.Proofs.YtddmllocjocipaaDoor.D
open Go.RowKit Go.Proofs.YtddmllocjocipaaDoorW.PrintWords Go.Proofs.YtddmllocjocipaaDoorW.PrintLast Go.Proofs.YtddmllocjocipaaDoorW.PrintMore
set_option linter.unusedSimpArgs false
set_option linter.unusedVariables false
/-- A comparing by -1, 0 and 1 that is an order. -/
structure Ord3 {α : Type} (c : α → α → Int) : Prop where
  rng : ∀ x y, c x y = -1 ∨ c x y = 0 ∨ c x y = 1
  eq : ∀ x y, c x y = 0 ↔ x = y
  anti : ∀ x y, c y x = - c x y
  tr : ∀ x y z, c x y = -1 → c y z = -1 → c x z = -1
theorem sgn_ord : Ord3 sgn := by
  refine ⟨fun x y => ?_, fun x y => sgn_zero, fun x y => ?_, fun x y z => ?_⟩
  · unfold sgn; split
    · exact .inl rfl
    · split
      · exact .inr (.inr rfl)
      · exact .inr (.inl rfl)
  · unfold sgn; repeat' split
    all_goals omega
  · unfold sgn; repeat' split
    all_goals omega
/-- By one part, and where these are the same by another one. -/
theorem lex_ord {α β γ : Type} {c : β → β → Int} {d : γ → γ → Int} (hc : Ord3 c) (hd : Ord3 d) (f : α → β) (g : α → γ) (hj : ∀ x y, f x = f y → g x = g y → x = y) : Ord3 (fun x y => if c (f x) (f y) ≠ 0 then c (f x) (f y) else d (g x) (g y)) := by
  refine ⟨fun x y => ?_, fun x y => ?_, fun x y => ?_, fun x y z => ?_⟩
  · show (if c (f x) (f y) ≠ 0 then c (f x) (f y) else d (g x) (g y)) = -1 ∨ _
    split
    · exact hc.rng _ _
    · exact hd.rng _ _
  · show (if c (f x) (f y) ≠ 0 then c (f x) (f y) else d (g x) (g y)) = 0 ↔ _
    split
    · next h => exact ⟨fun e => absurd e h, fun e => by rw [e] at h; exact absurd ((hc.eq _ _).2 rfl) h⟩
    · next h =>
      have h' : c (f x) (f y) = 0 := Classical.byContradiction h
      rw [hd.eq]
      exact ⟨fun e => hj x y ((hc.eq _ _).1 h') e, fun e => by rw [e]⟩
  · show (if c (f y) (f x) ≠ 0 then c (f y) (f x) else d (g y) (g x)) = - (if c (f x) (f y) ≠ 0 then c (f x) (f y) else d (g x) (g y))
    rw [hc.anti (f x) (f y)]
    by_cases h : c (f x) (f y) = 0
    · rw [if_neg (by omega), if_neg (by omega)]; exact hd.anti _ _
    · rw [if_pos (by omega), if_pos (by omega)]
  · show (if c (f x) (f y) ≠ 0 then c (f x) (f y) else d (g x) (g y)) = -1 → (if c (f y) (f z) ≠ 0 then c (f y) (f z) else d (g y) (g z)) = -1 → (if c (f x) (f z) ≠ 0 then c (f x) (f z) else d (g x) (g z)) = -1
    intro h1 h2
    by_cases e1 : c (f x) (f y) = 0
    · have e1' := (hc.eq _ _).1 e1
      rw [if_neg (by omega)] at h1
      rw [e1']
      by_cases e2 : c (f y) (f z) = 0
      · rw [if_neg (by omega)] at h2 ⊢
        exact hd.tr _ _ _ h1 h2
      · rw [if_pos e2] at h2 ⊢
        exact h2
    · rw [if_pos e1] at h1
      by_cases e2 : c (f y) (f z) = 0
      · have e2' := (hc.eq _ _).1 e2
        rw [← e2', if_pos e1]; exact h1
      · rw [if_pos e2] at h2
        have h3 := hc.tr _ _ _ h1 h2
        rw [if_pos (by omega)]; exact h3
/-- Lists by a comparing: the first two that are not the same, else how many there are. -/
def lstC {α : Type} (c : α → α → Int) : List α → List α → Int
  | [], [] => 0
  | [], _ :: _ => -1
  | _ :: _, [] => 1
  | x :: l, y :: m => if c x y = 0 then lstC c l m else c x y
theorem lst_ord {α : Type} {c : α → α → Int} (hc : Ord3 c) : Ord3 (lstC c) := by
  have rng : ∀ x y, lstC c x y = -1 ∨ lstC c x y = 0 ∨ lstC c x y = 1 := by
    intro x
    induction x with
    | nil => intro y; cases y <;> simp [lstC]
    | cons a l ih =>
      intro y
      cases y with
      | nil => simp [lstC]
      | cons b m => rw [lstC]; split
                    · exact ih m
                    · exact hc.rng a b
  have eq : ∀ x y, lstC c x y = 0 ↔ x = y := by
    intro x
    induction x with
    | nil => intro y; cases y <;> simp [lstC]
    | cons a l ih =>
      intro y
      cases y with
      | nil => simp [lstC]
      | cons b m =>
        rw [lstC]
        split
        · next h => rw [ih m, (hc.eq a b).1 h]; simp
        · next h => exact ⟨fun e => absurd e h, fun e => by injection e with e1 _; exact absurd ((hc.eq a b).2 e1) h⟩
  have anti : ∀ x y, lstC c y x = - lstC c x y := by
    intro x
    induction x with
    | nil => intro y; cases y <;> simp [lstC]
    | cons a l ih =>
      intro y
      cases y with
      | nil => simp [lstC]
      | cons b m =>
        rw [lstC, lstC, hc.anti a b]
        by_cases h : c a b = 0
        · rw [if_pos (by omega), if_pos h]; exact ih m
        · rw [if_neg (by omega), if_neg h]
  refine ⟨rng, eq, anti, ?_⟩
  intro x
  induction x with
  | nil =>
    intro y z h1 h2
    cases z with
    | nil => cases y with
      | nil => exact h1
      | cons b m => simp [lstC] at h2
    | cons d n => simp [lstC]
  | cons a l ih =>
    intro y z h1 h2
    cases y with
    | nil => simp [lstC] at h1
    | cons b m =>
      cases z with
      | nil => simp [lstC] at h2
      | cons d n =>
        rw [lstC] at h1 h2 ⊢
        by_cases e1 : c a b = 0
        · rw [if_pos e1] at h1
          rw [(hc.eq a b).1 e1]
          by_cases e2 : c b d = 0
          · rw [if_pos e2] at h2 ⊢; exact ih m n h1 h2
          · rw [if_neg e2] at h2 ⊢; exact h2
        · rw [if_neg e1] at h1
          by_cases e2 : c b d = 0
          · rw [← (hc.eq b d).1 e2, if_neg e1]; exact h1
          · rw [if_neg e2] at h2
            have h3 := hc.tr _ _ _ h1 h2
            rw [if_neg (by omega)]; exact h3
def byteC (a b : UInt8) : Int := sgn a.toNat b.toNat
theorem byte_ord : Ord3 byteC := by
  refine ⟨fun x y => sgn_ord.rng _ _, fun x y => ?_, fun x y => sgn_ord.anti _ _, fun x y z => sgn_ord.tr _ _ _⟩
  unfold byteC
  rw [sgn_zero]
  exact ⟨fun h => UInt8.toNat_inj.1 (by omega), fun h => by rw [h]⟩
theorem bytes_lst : ∀ (l m : List UInt8), Lib.compareBytes l m = lstC byteC l m
  | [], [] => rfl
  | [], _ :: _ => rfl
  | _ :: _, [] => rfl
  | a :: l, b :: m => by
    rw [Lib.compareBytes, lstC, bytes_lst l m]
    by_cases h1 : a < b
    · have e : byteC a b = -1 := by
        have := UInt8.lt_iff_toNat_lt.1 h1
        unfold byteC sgn; rw [if_pos (by omega)]
      rw [if_pos h1, e, if_neg (by decide)]
    · by_cases h2 : b < a
      · have e : byteC a b = 1 := by
          have := UInt8.lt_iff_toNat_lt.1 h2
          unfold byteC sgn; rw [if_neg (by omega), if_pos (by omega)]
        rw [if_neg h1, if_pos h2, e, if_neg (by decide)]
      · have e : byteC a b = 0 := by
          have h1' : ¬ a.toNat < b.toNat := fun h => h1 (UInt8.lt_iff_toNat_lt.2 h)
          have h2' : ¬ b.toNat < a.toNat := fun h => h2 (UInt8.lt_iff_toNat_lt.2 h)
          unfold byteC sgn; rw [if_neg (by omega), if_neg (by omega)]
        rw [if_neg h1, if_neg h2, e, if_pos rfl]
theorem s23_ext {a b : S23} (h0 : a.f0 = b.f0) (h1 : a.f1 = b.f1) (h2 : a.f2 = b.f2) (h3 : a.f3 = b.f3) : a = b := by
  cases a; cases b; simp_all
theorem cmpV_ord : Ord3 cmpV := by
  have b : Ord3 (fun s t : ByteArray => Lib.compareBytes s.data.toList t.data.toList) := by
    have h := lst_ord byte_ord
    refine ⟨fun x y => ?_, fun x y => ?_, fun x y => ?_, fun x y z => ?_⟩
    · show Lib.compareBytes _ _ = -1 ∨ _; rw [bytes_lst]; exact h.rng _ _
    · show Lib.compareBytes _ _ = 0 ↔ _; rw [bytes_lst, h.eq]; exact ⟨fun e => ba_eq e, fun e => by rw [e]⟩
    · show Lib.compareBytes _ _ = - Lib.compareBytes _ _; rw [bytes_lst, bytes_lst]; exact h.anti _ _
    · show Lib.compareBytes _ _ = -1 → Lib.compareBytes _ _ = -1 → Lib.compareBytes _ _ = -1; rw [bytes_lst, bytes_lst, bytes_lst]; exact h.tr _ _ _
  have o3 := lex_ord (α := Int × ByteArray) sgn_ord b (·.1) (·.2) (fun x y h1 h2 => by cases x; cases y; simp_all)
  have o2 := lex_ord (α := Int × Int × ByteArray) sgn_ord o3 (·.1) (·.2) (fun x y h1 h2 => by cases x; cases y; simp_all)
  exact lex_ord (α := S23) sgn_ord o2 (·.f0) (fun x => (x.f1, x.f2, x.f3)) (fun x y h1 h2 => by simp only [Prod.mk.injEq] at h2; exact s23_ext h1 h2.1 h2.2.1 h2.2.2)
end Go.Proofs.YtddmllocjocipaaDoor.D
