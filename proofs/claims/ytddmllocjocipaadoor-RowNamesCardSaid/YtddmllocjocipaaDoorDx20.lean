/- What the functions that a law reaches come to, as plain Lean functions, and the law's row: written by a session's own program over the kit's print.py, some functions proved by hand. Conditions: as each theorem states them. -/
import Derived.Test.YtddmllocjocipaaDoorDx0
import Derived.Test.YtddmllocjocipaaDoorDx12
import Derived.Test.YtddmllocjocipaaDoorDx18
import Derived.Test.YtddmllocjocipaaDoorDx19
import Derived.Test.YtddmllocjocipaaDoorBack
import Derived.Test.YtddmllocjocipaaDoorParts
import Derived.RangeFuncNested
import Derived.RangeFuncBound
import Derived.RangeFuncCalls
import Derived.RangeFuncLeaves
import Derived.RangeFuncBox
import Derived.Shelf.Abstract
import Derived.Shelf.RegionOpen
import Derived.WalkKit
import Derived.OwnWalkIn
import Derived.TacticsInMore
import Derived.LoopNIn
import Derived.LoopIn
import Derived.Test.YtddmllocjocipaaDoorGw
namespace Go.Proofs.YtddmllocjocipaaDoor.D
open Go.RowKit Go.Proofs.YtddmllocjocipaaDoorW.PrintWords Go.Proofs.YtddmllocjocipaaDoorW.PrintLast Go.Proofs.YtddmllocjocipaaDoorW.PrintMore
attribute [local go_sem] max2_int min2_int max_two min_two max_three min_three max_four min_four   -- for this text's walks alone
set_option linter.unusedVariables false
set_option linter.unusedSimpArgs false

/-! ### stringslite_HasSuffix: function 117 -/
def stringslite_HasSuffix.f (a0 : ByteArray) (a1 : ByteArray) : Option (Bool) := if (a0.size : Int) ≥ (a1.size : Int) then (if 0 ≤ (wrap64 ((a0.size : Int) - (a1.size : Int))) then (if (wrap64 ((a0.size : Int) - (a1.size : Int))) ≤ (a0.size : Int) then (some ((a0.extract ((wrap64 ((a0.size : Int) - (a1.size : Int))) : Int).toNat a0.size).toList == a1.toList)) else (none)) else (none)) else (some false)
set_option maxHeartbeats 8000000 in
set_option maxRecDepth 100000 in
theorem stringslite_HasSuffix.calls (a0 : ByteArray) (a1 : ByteArray) (r : Bool) (w : World) (h : stringslite_HasSuffix.f a0 a1 = some r) :
    Calls Tryd.prog 117 #[.string a0, .string a1] w fun e w' => e = .returned (.bool r) ∧ Drawn0 w w' := by
  have H : (if (a0.size : Int) ≥ (a1.size : Int) then (if 0 ≤ (wrap64 ((a0.size : Int) - (a1.size : Int))) then (if (wrap64 ((a0.size : Int) - (a1.size : Int))) ≤ (a0.size : Int) then (some ((a0.extract ((wrap64 ((a0.size : Int) - (a1.size : Int))) : Int).toNat a0.size).toList == a1.toList)) else (none)) else (none)) else (some false)) = some r := h
  clear h
  by_cases c3 : (a0.size : Int) ≥ (a1.size : Int)
  · rw [if_pos c3] at H
    have c3b0 : decide ((a1.size : Int) ≤ (a0.size : Int)) = true := decide_eq_true c3
    have c3b1 : decide (a1.size ≤ a0.size) = true := decide_eq_true (Int.ofNat_le.mp c3)
    clear c3
    obtain ⟨ji4, hji4⟩ : ∃ j_ : Int, (wrap64 ((a0.size : Int) - (a1.size : Int))) = j_ := ⟨_, rfl⟩
    replace H : (if 0 ≤ (ji4) then (if (ji4) ≤ (a0.size : Int) then (some ((a0.extract ((ji4) : Int).toNat a0.size).toList == a1.toList)) else (none)) else (none)) = some r := by first | (rw [hji4] at H; exact H) | (simp only [hji4] at H ⊢; exact H)
    have hji4w : (IntKind.i64.wrap ((a0.size : Int) - (a1.size : Int))) = ji4 := (i64_w _).trans hji4
    by_cases c5 : 0 ≤ (ji4)
    · rw [if_pos c5] at H
      have c5b0 := eq_true c5
      have c5b1 : decide (0 ≤ (ji4)) = true := decide_eq_true c5
      clear c5
      by_cases c6 : (ji4) ≤ (a0.size : Int)
      · rw [if_pos c6] at H
        have c6b0 := eq_true c6
        have c6b1 : decide ((ji4) ≤ (a0.size : Int)) = true := decide_eq_true c6
        clear c6
        obtain rfl := Option.some.inj H
        go_enter Tryd.func117, Tryd.ntmps117
        go_wp2
        go_ret
        exact ⟨by first | rfl | (simp; done) | (simp only [← hji4] <;> (first | rfl | simp)) | (simp [*]; done), by repeat (first | exact Drawn0.refl _ | apply Drawn0.step)⟩
      · rw [if_neg c6] at H
        exact absurd H (by simp)
    · rw [if_neg c5] at H
      exact absurd H (by simp)
  · rw [if_neg c3] at H
    have c3b0 : decide ((a1.size : Int) ≤ (a0.size : Int)) = false := decide_eq_false c3
    have c3b1 : decide (a1.size ≤ a0.size) = false := decide_eq_false (fun h => c3 (Int.ofNat_le.mpr h))
    clear c3
    obtain rfl := Option.some.inj H
    go_enter Tryd.func117, Tryd.ntmps117
    go_wp2
    go_ret
    exact ⟨by first | rfl | (simp; done) | (simp [*]; done), by repeat (first | exact Drawn0.refl _ | apply Drawn0.step)⟩

/-! ### stringslite_CutSuffix: function 104 -/
def stringslite_CutSuffix.f (a0 : ByteArray) (a1 : ByteArray) : Option (ByteArray × Bool) := (stringslite_HasSuffix.f a0 a1).bind fun t402 => (if t402 = true then (if 0 ≤ (wrap64 ((a0.size : Int) - (a1.size : Int))) then (if (wrap64 ((a0.size : Int) - (a1.size : Int))) ≤ (a0.size : Int) then (some (a0.extract 0 ((wrap64 ((a0.size : Int) - (a1.size : Int))) : Int).toNat, true)) else (none)) else (none)) else (some (a0, false)))
set_option maxHeartbeats 8000000 in
set_option maxRecDepth 100000 in
theorem stringslite_CutSuffix.calls (a0 : ByteArray) (a1 : ByteArray) (r1 : ByteArray) (r2 : Bool) (w : World) (h : stringslite_CutSuffix.f a0 a1 = some (r1, r2)) :
    Calls Tryd.prog 104 #[.string a0, .string a1] w fun e w' => e = .returned (.tuple #[.string r1, .bool r2]) ∧ Drawn0 w w' := by
  have H : ((stringslite_HasSuffix.f a0 a1).bind fun t402 => (if t402 = true then (if 0 ≤ (wrap64 ((a0.size : Int) - (a1.size : Int))) then (if (wrap64 ((a0.size : Int) - (a1.size : Int))) ≤ (a0.size : Int) then (some (a0.extract 0 ((wrap64 ((a0.size : Int) - (a1.size : Int))) : Int).toNat, true)) else (none)) else (none)) else (some (a0, false)))) = some (r1, r2) := h
  clear h
  replace H := Option.bind_eq_some_iff.mp H
  obtain ⟨t402, A30, H⟩ := H
  replace H : (if t402 = true then (if 0 ≤ (wrap64 ((a0.size : Int) - (a1.size : Int))) then (if (wrap64 ((a0.size : Int) - (a1.size : Int))) ≤ (a0.size : Int) then (some (a0.extract 0 ((wrap64 ((a0.size : Int) - (a1.size : Int))) : Int).toNat, true)) else (none)) else (none)) else (some (a0, false))) = some (r1, r2) := H
  have A3 := Aside0.mk A30
  clear A30
  by_cases c4 : t402 = true
  · subst c4
    have H1 : (if 0 ≤ (wrap64 ((a0.size : Int) - (a1.size : Int))) then (if (wrap64 ((a0.size : Int) - (a1.size : Int))) ≤ (a0.size : Int) then (some (a0.extract 0 ((wrap64 ((a0.size : Int) - (a1.size : Int))) : Int).toNat, true)) else (none)) else (none)) = some (r1, r2) := by rw [if_pos rfl] at H; exact H
    clear H
    have H := H1
    clear H1
    obtain ⟨ji5, hji5⟩ : ∃ j_ : Int, (wrap64 ((a0.size : Int) - (a1.size : Int))) = j_ := ⟨_, rfl⟩
    replace H : (if 0 ≤ (ji5) then (if (ji5) ≤ (a0.size : Int) then (some (a0.extract 0 ((ji5) : Int).toNat, true)) else (none)) else (none)) = some (r1, r2) := by first | (rw [hji5] at H; exact H) | (simp only [hji5] at H ⊢; exact H)
    (try rw [hji5] at A3)
    have hji5w : (IntKind.i64.wrap ((a0.size : Int) - (a1.size : Int))) = ji5 := (i64_w _).trans hji5
    by_cases c6 : 0 ≤ (ji5)
    · rw [if_pos c6] at H
      have c6b0 := eq_true c6
      have c6b1 : decide (0 ≤ (ji5)) = true := decide_eq_true c6
      clear c6
      by_cases c7 : (ji5) ≤ (a0.size : Int)
      · rw [if_pos c7] at H
        have c7b0 := eq_true c7
        have c7b1 : decide ((ji5) ≤ (a0.size : Int)) = true := decide_eq_true c7
        clear c7
        simp only [Option.some.injEq, Prod.mk.injEq] at H
        obtain ⟨rfl, rfl⟩ := H
        go_enter Tryd.func104, Tryd.ntmps104
        go_wp2_with (first | ((with_reducible refine gate_callee (f := 117) rfl ?_); refine goesL_ (some 8) rfl rfl Tryd.func117 (by kernel_rfl) rfl #[.string a0, .string a1] rfl (by (try simp only [List.map_toArray, List.map_cons, List.map_nil]); first | done | rfl | (simp only [List.length_drop, List.length_take]; rfl)) ?_; (with_reducible refine (stringslite_HasSuffix.calls a0 a1 true _ A3.out).mono ?_); rintro e w' ⟨rfl, ⟨nd, rfl⟩⟩; refine ⟨_, rfl, ?_⟩))
        go_ret2
        exact ⟨by first | rfl | (simp; done) | (simp only [← hji5] <;> (first | rfl | simp)) | (simp [*]; done), by repeat (first | exact Drawn0.refl _ | apply Drawn0.step)⟩
      · rw [if_neg c7] at H
        exact absurd H (by simp)
    · rw [if_neg c6] at H
      exact absurd H (by simp)
  · replace c4 := Bool.eq_false_iff.mpr c4
    subst c4
    have H1 : (some (a0, false)) = some (r1, r2) := by rw [if_neg (show ¬ (false = true) by decide)] at H; exact H
    clear H
    have H := H1
    clear H1
    simp only [Option.some.injEq, Prod.mk.injEq] at H
    obtain ⟨rfl, rfl⟩ := H
    go_enter Tryd.func104, Tryd.ntmps104
    go_wp2_with (first | ((with_reducible refine gate_callee (f := 117) rfl ?_); refine goesL_ (some 8) rfl rfl Tryd.func117 (by kernel_rfl) rfl #[.string a0, .string a1] rfl (by (try simp only [List.map_toArray, List.map_cons, List.map_nil]); first | done | rfl | (simp only [List.length_drop, List.length_take]; rfl)) ?_; (with_reducible refine (stringslite_HasSuffix.calls a0 a1 false _ A3.out).mono ?_); rintro e w' ⟨rfl, ⟨nd, rfl⟩⟩; refine ⟨_, rfl, ?_⟩))
    go_ret2
    exact ⟨by first | rfl | (simp; done) | (simp [*]; done), by repeat (first | exact Drawn0.refl _ | apply Drawn0.step)⟩

/-! ### strings_CutSuffix: function 88 -/
def strings_CutSuffix.f (a0 : ByteArray) (a1 : ByteArray) : Option (ByteArray × Bool) := (stringslite_CutSuffix.f a0 a1).bind fun bt403 => (some (bt403.1, bt403.2))
set_option maxHeartbeats 8000000 in
set_option maxRecDepth 100000 in
theorem strings_CutSuffix.calls (a0 : ByteArray) (a1 : ByteArray) (r1 : ByteArray) (r2 : Bool) (w : World) (h : strings_CutSuffix.f a0 a1 = some (r1, r2)) :
    Calls Tryd.prog 88 #[.string a0, .string a1] w fun e w' => e = .returned (.tuple #[.string r1, .bool r2]) ∧ Drawn0 w w' := by
  have H : ((stringslite_CutSuffix.f a0 a1).bind fun bt403 => (some (bt403.1, bt403.2))) = some (r1, r2) := h
  clear h
  replace H := Option.bind_eq_some_iff.mp H
  obtain ⟨⟨t403, t404⟩, A30, H⟩ := H
  replace H : (some (t403, t404)) = some (r1, r2) := H
  have A3 := Aside0.mk A30
  clear A30
  simp only [Option.some.injEq, Prod.mk.injEq] at H
  obtain ⟨rfl, rfl⟩ := H
  go_enter Tryd.func88, Tryd.ntmps88
  go_wp2_with (first | ((with_reducible refine gate_callee (f := 104) rfl ?_); refine goesL_ (some 8) rfl rfl Tryd.func104 (by kernel_rfl) rfl #[.string a0, .string a1] rfl (by (try simp only [List.map_toArray, List.map_cons, List.map_nil]); first | done | rfl | (simp only [List.length_drop, List.length_take]; rfl)) ?_; (with_reducible refine (stringslite_CutSuffix.calls a0 a1 t403 t404 _ A3.out).mono ?_); rintro e w' ⟨rfl, ⟨nd, rfl⟩⟩; refine ⟨_, rfl, ?_⟩))
  go_ret2
  exact ⟨by first | rfl | (simp; done) | (simp [*]; done), by repeat (first | exact Drawn0.refl _ | apply Drawn0.step)⟩

/-! ### row_Parse: function 63: by hand -/
section
open Go.Shelf
attribute [local go_sem] Oper.semAt_some
/-! #### a row's text, by its bytes -/
theorem prefix_first (s : ByteArray) (c : UInt8) : stringslite_HasPrefix.f s ⟨#[c]⟩ = some (s.data.toList.head? == some c) := by
  have h := prefix_one s c
  unfold strings_HasPrefix.f at h
  obtain ⟨t, ht, h2⟩ := Option.bind_eq_some_iff.mp h
  rw [ht, ← h2]
theorem cut_first (s : ByteArray) (c : UInt8) : strings_CutPrefix.f s ⟨#[c]⟩ = some (if s.data.toList.head? = some c then (s.extract 1 s.size, true) else (s, false)) := by
  unfold strings_CutPrefix.f stringslite_CutPrefix.f
  rw [prefix_first, Option.bind_some]
  have e1 : ((⟨#[c]⟩ : ByteArray).size : Int) = 1 := rfl
  by_cases h : s.data.toList.head? = some c
  · have hs : 1 ≤ s.size := by
      rw [← size_list]
      cases hl : s.data.toList with
      | nil => rw [hl] at h; cases h
      | cons d l => simp
    rw [if_pos (beq_iff_eq.2 h), if_pos h, e1, if_pos (by omega), if_pos (by omega)]
    rfl
  · rw [if_neg (fun k => h (beq_iff_eq.1 k)), if_neg h]
    rfl
theorem cut_last (s : ByteArray) (c : UInt8) (hs : s.size ≤ 1000000000) : strings_CutSuffix.f s ⟨#[c]⟩ = some (if s.data.toList.getLast? = some c then (s.extract 0 (s.size - 1), true) else (s, false)) := by
  have e1 : ((⟨#[c]⟩ : ByteArray).size : Int) = 1 := rfl
  have hw : wrap64 ((s.size : Int) - 1) = (s.size : Int) - 1 := by unfold wrap64; omega
  have hsuf : stringslite_HasSuffix.f s ⟨#[c]⟩ = some (s.data.toList.getLast? == some c) := by
    unfold stringslite_HasSuffix.f
    rw [e1, hw]
    by_cases h1 : (s.size : Int) ≥ 1
    · rw [if_pos h1, if_pos (by omega), if_pos (by omega)]
      congr 1
      rw [Bool.eq_iff_iff, beq_iff_eq, beq_iff_eq, ByteArray.toList_eq, ByteArray.toList_eq, extract_list]
      have e2 : ((s.size : Int) - 1).toNat = s.size - 1 := by omega
      rw [e2, drop_list s (s.size - 1) (by omega), show s.size - 1 + 1 = s.size by omega, List.drop_of_length_le (by rw [size_list]; exact Nat.le_refl _), show s.size - (s.size - 1) = 1 by omega]
      rw [List.getLast?_eq_getElem?, size_list, List.getElem?_eq_getElem (by rw [size_list]; omega), at_list s (s.size - 1) (by omega)]
      simp
    · rw [if_neg h1]
      have : s.data.toList = [] := List.length_eq_zero_iff.1 (by rw [size_list]; omega)
      rw [this]; rfl
  unfold strings_CutSuffix.f stringslite_CutSuffix.f
  rw [hsuf, Option.bind_some, e1, hw]
  by_cases h : s.data.toList.getLast? = some c
  · have h1 : 1 ≤ s.size := by
      rw [← size_list]
      cases hl : s.data.toList with
      | nil => rw [hl] at h; cases h
      | cons d l => simp
    rw [if_pos (beq_iff_eq.2 h), if_pos h, if_pos (by omega), if_pos (by omega)]
    have e2 : ((s.size : Int) - 1).toNat = s.size - 1 := by omega
    rw [e2]
    rfl
  · rw [if_neg (fun k => h (beq_iff_eq.1 k)), if_neg h]
    rfl
/-- What stands between a row's brackets. -/
def rowOf (ps : List ByteArray) : List S23 × Int := if ps.all (fun p => isText p.data.toList) then (ps.map fun p => readV p.data.toList, 0) else ([], 4)
/-- The row of a text, or that it is none's. -/
def parseRow (s : ByteArray) : List S23 × Int :=
  if s.data.toList.head? = some 40 ∧ (s.extract 1 s.size).data.toList.getLast? = some 41 then
    if ((s.extract 1 s.size).extract 0 ((s.extract 1 s.size).size - 1)).data.toList = [] then ([], 0) else rowOf (partsB ((s.extract 1 s.size).extract 0 ((s.extract 1 s.size).size - 1)))
  else ([], 4)
def row_Parse.f (k : Nat) (a0 : ByteArray) : Option ((List (S23)) × Int) := if 1 ≤ k ∧ a0.size ≤ 1000000000 then some (parseRow a0) else none
theorem row_Parse.mono : ∀ a0 k, LeO (row_Parse.f k a0) (row_Parse.f (k + 1) a0) := by
  intro a0 k r h
  unfold row_Parse.f at h ⊢
  split at h
  · next hc => rw [if_pos ⟨by omega, hc.2⟩]; exact h
  · cases h
theorem info29x : (Tryd.prog.info? 23).map (fun i => (i.zero, i.size, i.bytes)) = some (some (.agg #[.int .u8 0, .int .i64 0, .int .i64 0, .string ⟨#[]⟩]), 4, 40) := by kernel_rfl
def cellsV (l : List S23) : List Value := l.flatMap fun x => [.int .u8 x.f0, .int .i64 x.f1, .int .i64 x.f2, .string x.f3]
theorem cellsV_len : ∀ l : List S23, (cellsV l).length = l.length * 4
  | [] => rfl
  | x :: l => by
    have ih := cellsV_len l
    unfold cellsV at ih ⊢
    rw [List.flatMap_cons, List.length_append, ih]
    simp; omega
theorem cellsV_snoc (l : List S23) (x : S23) : cellsV (l ++ [x]) = cellsV l ++ [.int .u8 x.f0, .int .i64 x.f1, .int .i64 x.f2, .string x.f3] := by unfold cellsV; simp
theorem cellsV_at : ∀ (l : List S23) (j : Nat) (p : S23), l[j]? = some p → ((cellsV l).drop (j * 4)).take 4 = [.int .u8 p.f0, .int .i64 p.f1, .int .i64 p.f2, .string p.f3]
  | x :: l, 0, p, h => by
    simp at h; subst h
    unfold cellsV; rw [List.flatMap_cons]; simp
  | x :: l, j + 1, p, h => by
    have ih := cellsV_at l j p (by simpa using h)
    rw [← ih]
    unfold cellsV
    rw [List.flatMap_cons, show (j + 1) * 4 = 4 + j * 4 by omega]
    rw [← List.drop_drop]
    rfl
def vals (l : List Txt1) : List S23 := l.map fun x => readV x.1.data.toList
theorem vals_snoc (l : List Txt1) (x : Txt1) : vals (l ++ [x]) = vals l ++ [readV x.1.data.toList] := by unfold vals; simp
theorem own_R {W : World} {base : Nat} {v : Value} {l : List S23} (h : W.ownsRow base 23 4 v l.length (cellsV l)) : Kd.R k23 23 W base (fun _ => True) v l :=
  ⟨fun _ _ => trivial, cellsV l, h, cellsV_len l, fun j p hp => by
    have e := cellsV_at l j p hp
    show k23.M W base _ p (((cellsV l).drop (j * 4)).take 4)
    rw [e]
    exact k23_mkM _ _ _ p⟩
theorem boxed_below {W W' : World} {B : Nat} {t : TypeId} {v : Value} (h : Boxed W B t v) (hb : Below W.heap.size W W') : Boxed W' B t v := (hb.block B h.lt).trans h
theorem boxed_keep {W W' : World} {row : Option Nat} {B : Nat} {t : TypeId} {v : Value} (h : Boxed W B t v) (hg : W.grownBy W' row) (hr : ∀ r, row = some r → ∃ o : Obj, W.heap[r]? = some o ∧ o.isCells = false) : Boxed W' B t v := by
  refine h.kept hg ?_
  intro e
  obtain ⟨o, ho, hc⟩ := hr B e.symm
  have : W.heap[B]? = some (.cells #[v] t (0, 0)) := h
  rw [this] at ho; cases ho; cases hc
theorem row_keep {W W' : World} {row : Option Nat} {base n : Nat} {e : TypeId} {size : Nat} {v : Value} {xs : List Value} (h : W.ownsRow base e size v n xs) (hg : W.grownBy W' row) (hr : ∀ r, row = some r → ∃ o : Obj, W.heap[r]? = some o ∧ o.isCells = false) : W'.ownsRow base e size v n xs := by
  refine own_move h fun k hk => ?_
  obtain ⟨cs, hc⟩ := own_typed h k hk
  refine hg.block k (Array.getElem?_eq_some_iff.1 hc).1 ?_
  intro e
  obtain ⟨o, ho, hn⟩ := hr k e.symm
  rw [hc] at ho; cases ho; cases hn
theorem partsS_len : ∀ (k q : Bool) (l : List UInt8), (partsS k q l).length ≤ l.length + 1
  | _, _, [] => by simp [partsS]
  | true, q, c :: t => by rw [partsS]; have := partsS_len false q t; simp only [List.length_cons]; omega
  | false, q, c :: t => by
    rw [partsS]
    split
    · have := partsS_len true (flip q c) t; simp only [List.length_cons]; omega
    · have := partsS_len false (flip q c) t
      cases h : partsS false (flip q c) t with
      | nil => simp [consHead]
      | cons p ps => rw [h] at this; simp only [consHead, List.length_cons] at this ⊢; omega
theorem partsB_len (s : ByteArray) : (partsB s).length ≤ s.size + 1 := by
  unfold partsB
  rw [List.length_map, ← size_list]
  exact partsS_len _ _ _
theorem keeps_below {W W' : World} (h : Below W.heap.size W W') : KeepsOthers W W' := ⟨h.size, fun k o hk _ => (h.block k (Array.getElem?_eq_some_iff.1 hk).1).trans hk⟩
theorem row_below {W W' : World} {base n : Nat} {e : TypeId} {size : Nat} {v : Value} {xs : List Value} (h : W.ownsRow base e size v n xs) (hb : Below W.heap.size W W') : W'.ownsRow base e size v n xs :=
  own_move h fun k hk => hb.block k (own_lt h k hk)
theorem boxed_after {W w1 : World} {n₀ B B7 : Nat} {t : TypeId} {u v v' : Value} {k : Nat} {xs : List Value} {tmp : Obj} (h : Boxed W B t u) (hte : t ≠ 23) (hrow : W.ownsRow n₀ 23 4 v k xs) (hgrow : (W.alloc tmp).grownBy w1 v.ownBlock) (hne : B ≠ B7) : Boxed (w1.setCell ⟨B7, 0, none⟩ v') B t u :=
  (((h.alloc tmp).kept hgrow (h.not_row hte hrow) : Boxed w1 B t u)).other hne v'
set_option maxRecDepth 100000 in
theorem results_two {w : World} {tmps : Array Value} {g g' : Nat} {v v' : Value} (hp : tmps[2]?.getD undef = .pointer (some ⟨g, 0, none⟩)) (hp' : tmps[3]?.getD undef = .pointer (some ⟨g', 0, none⟩)) (hv : w.cell? ⟨g, 0, none⟩ = some v) (hv' : w.cell? ⟨g', 0, none⟩ = some v') :
    (results Tryd.f63 tmps).run Tryd.prog w = .ok (.tuple #[v, v']) w := by
  simp [results, Tryd.f63, hp, hp', asAddr]
  go_simp
theorem rowOf_all {T : ByteArray} {ys : List Txt1} (h : ys.map (·.1) = partsB T) (hall : ∀ x ∈ ys, isText x.1.data.toList = true) : rowOf (partsB T) = (vals ys, 0) := by
  unfold rowOf
  rw [← h, if_pos (by rw [List.all_map, List.all_eq_true]; exact hall)]
  unfold vals
  rw [List.map_map]
  rfl
theorem rowOf_none {T : ByteArray} {pre : List Txt1} {x : Txt1} (h : pre.map (·.1) <+: partsB T) (hx : x ∈ pre) (hn : isText x.1.data.toList = false) : rowOf (partsB T) = ([], 4) := by
  unfold rowOf
  rw [if_neg]
  intro hc
  rw [List.all_eq_true] at hc
  have := hc x.1 (h.subset (List.mem_map_of_mem hx))
  rw [hn] at this
  cases this
set_option maxHeartbeats 8000000 in
set_option maxRecDepth 100000 in
theorem row_Parse.calls (k : Nat) (a0 : ByteArray) (r1 : List (S23)) (r2 : Int) (w : World) (h : row_Parse.f k a0 = some (r1, r2)) (hG : GW true w) :
    Calls Tryd.prog 63 #[.string a0] w fun e w' => ∃ v0_ : Value, e = .returned (.tuple #[v0_, .int .i64 r2]) ∧ Kd.R k23 23 w' w.heap.size (fun _ => True) v0_ r1 ∧ Below w.heap.size w w' := by
  unfold row_Parse.f at h
  split at h
  case isFalse => cases h
  next hc =>
  have hp : parseRow a0 = (r1, r2) := Option.some.inj h
  clear h
  obtain ⟨n, hn⟩ : ∃ n, 9 ≤ n := ⟨9, by decide⟩
  have h1n : 1 ≤ n := by omega
  refine (callsIn_wide (n := n)).1 ?_
  refine callsIn_of_wp_marks Tryd.func63 rfl trivial ?_ rfl
  simp only [Tryd.ntmps63, List.size_toArray, List.length_cons, List.length_nil, Nat.reduceAdd, Nat.reduceSub, Array.replicate_succ, Array.replicate_zero, List.push_toArray, List.append_toArray, List.nil_append, List.cons_append]
  have c1 := cut_first a0 40
  have hz : (a0.extract 1 a0.size).size ≤ 1000000000 := Nat.le_trans (extract_le _ _ _) hc.2
  have b2 := Boxed.new w 29 (.slice none 0 0)
  have b3 := Boxed.new (w.alloc (.cells #[.slice none 0 0] 29)) 32 (.int .i64 0)
  rw [World.size_alloc] at b3
  have x2 := b2.cell
  unfold parseRow at hp
  by_cases e1 : a0.data.toList.head? = some 40
  · rw [if_pos e1] at c1
    have c2 := cut_last (a0.extract 1 a0.size) 41 hz
    by_cases e2 : (a0.extract 1 a0.size).data.toList.getLast? = some 41
    · rw [if_pos e2] at c2
      rw [if_pos ⟨e1, e2⟩] at hp
      have hT := Nat.le_trans (extract_le (a0.extract 1 a0.size) 0 ((a0.extract 1 a0.size).size - 1)) hz
      generalize (a0.extract 1 a0.size).extract 0 ((a0.extract 1 a0.size).size - 1) = T at c2 hp hT
      by_cases e3 : T.data.toList = []
      · rw [if_pos e3] at hp
        obtain ⟨rfl, rfl⟩ := Prod.mk.inj hp
        have e4 : T.toList.isEmpty = true := by rw [tl_eq, e3]; rfl
        gi_wp2_with (first | (refine ⟨trivial, ?_⟩; gi_at_call 87; refine (callsIn_wide.2 (strings_CutPrefix.calls _ _ _ _ _ c1)).mono ?_; rintro e w' ⟨rfl, ⟨⟨kd, rfl⟩⟩⟩) | (refine ⟨trivial, ?_⟩; gi_at_call 88; refine (callsIn_wide.2 (strings_CutSuffix.calls _ _ _ _ _ c2)).mono ?_; rintro e w' ⟨rfl, ⟨⟨kd2, rfl⟩⟩⟩))
        refine ⟨.tuple #[.slice none 0 0, .int .i64 0], by (simp [results, Tryd.f63, asAddr]; go_simp), ⟨_, rfl, Kd.R_nil _ _ _ _ _, ?_⟩⟩
        repeat (first | exact Below.refl _ _ | apply below_alloc | apply pw_below_drewN | refine below_set ?_ (Nat.le_refl _) | refine below_set ?_ (Nat.le_add_right _ _))
      · rw [if_neg e3] at hp
        have e4 : T.toList.isEmpty = false := by rw [tl_eq]; simpa using e3
        gi_wp2_with (first | (refine ⟨trivial, ?_⟩; gi_at_call 87; refine (callsIn_wide.2 (strings_CutPrefix.calls _ _ _ _ _ c1)).mono ?_; rintro e w' ⟨rfl, ⟨⟨kd, rfl⟩⟩⟩) | (refine ⟨trivial, ?_⟩; gi_at_call 88; refine (callsIn_wide.2 (strings_CutSuffix.calls _ _ _ _ _ c2)).mono ?_; rintro e w' ⟨rfl, ⟨⟨kd2, rfl⟩⟩⟩) | (refine ⟨trivial, ?_⟩; gi_at_call 89; refine (parts_made _ _ _).mono ?_; rintro e w' ⟨rfl, rfl⟩))
        obtain ⟨W0, hW0⟩ : ∃ W0, (((((w.alloc (Obj.cells #[Value.slice none 0 0] 29)).alloc (Obj.cells #[Value.int IntKind.i64 0] 32)).drewN (kd + kd2)).alloc (Obj.cells #[Value.slice none 0 0] 29)).alloc (Obj.cells #[Value.string T] 9)) = W0 := ⟨_, rfl⟩
        rw [hW0]
        have hsz : W0.heap.size = w.heap.size + 4 := by rw [← hW0]; simp
        have B2 : Boxed W0 w.heap.size 29 (.slice none 0 0) := by rw [← hW0]; exact ((b2.alloc _ : Boxed _ _ _ _).alloc _).alloc _
        have B3 : Boxed W0 (w.heap.size + 1) 32 (.int .i64 0) := by rw [← hW0]; exact (b3.alloc _).alloc _
        have B7 : Boxed W0 (w.heap.size + 1 + 1) 29 (.slice none 0 0) := by
          rw [← hW0]
          have := Boxed.new (((w.alloc (Obj.cells #[Value.slice none 0 0] 29)).alloc (Obj.cells #[Value.int IntKind.i64 0] 32)).drewN (kd + kd2)) 29 (.slice none 0 0)
          rw [World.heap_drewN, World.size_alloc, World.size_alloc] at this
          exact this.alloc _
        have BN : Boxed W0 (w.heap.size + 1 + 1 + 1) 9 (.string T) := by
          rw [← hW0]
          have := Boxed.new ((((w.alloc (Obj.cells #[Value.slice none 0 0] 29)).alloc (Obj.cells #[Value.int IntKind.i64 0] 32)).drewN (kd + kd2)).alloc (Obj.cells #[Value.slice none 0 0] 29)) 9 (.string T)
          rw [World.size_alloc, World.heap_drewN, World.size_alloc, World.size_alloc] at this
          exact this
        have hB0 : Below w.heap.size w W0 := by
          rw [← hW0]
          repeat (first | exact Below.refl _ _ | apply below_alloc | apply pw_below_drewN)
        clear hW0 b2 b3 x2
        refine wpIn_rangeFunc_ownG rfl h1n (gf := 105) (lb := #[.pointer (some ⟨w.heap.size + 1 + 1 + 1, 0, none⟩)]) rfl trivial (enters_of Tryd.func105 (by kernel_rfl) rfl)
          (parts_stops (n - 1) (by omega) (w.heap.size + 1 + 1 + 1) T hT W0 (by omega) BN.cell) (fun h k => k.trans h) ?keep (Below.refl _ _) (fun _ => rfl)
          (fun pre W => (∃ v, Boxed W (w.heap.size + 1 + 1) 29 v ∧ W.ownsRow w.heap.size 23 4 v pre.length (cellsV (vals pre))) ∧ (Boxed W w.heap.size 29 (.slice none 0 0) ∧ Boxed W (w.heap.size + 1) 32 (.int .i64 0) ∧ Boxed W (w.heap.size + 1 + 1 + 1) 9 (.string T)) ∧ (∀ x ∈ pre, isText x.1.data.toList = true) ∧ Below w.heap.size w W)
          (fun c pre W => c = .ret ∧ Boxed W w.heap.size 29 (.slice none 0 0) ∧ Boxed W (w.heap.size + 1) 32 (.int .i64 4) ∧ (∃ x ∈ pre, isText x.1.data.toList = false) ∧ Below w.heap.size w W)
          ?own ?ownx ⟨⟨_, B7, World.ownsRow_nil _ _ _ _⟩, ⟨B2, B3, BN⟩, by simp, hB0⟩
          (fun x => { tmps := #[Value.string a0, undef, Value.pointer (some { block := w.heap.size, off := 0 }),
          Value.pointer (some { block := w.heap.size + 1, off := 0 }), Value.string T, Value.bool true, Value.bool true,
          Value.pointer (some { block := w.heap.size + 1 + 1, off := 0 }), Value.string x.1, undef, undef,
          Value.tuple #[Value.string (a0.extract 1 a0.size), Value.bool true], Value.string a0,
          Value.tuple #[Value.string (a0.extract 1 a0.size), Value.bool true], Value.string (a0.extract 1 a0.size),
          Value.bool true, Value.tuple #[Value.string T, Value.bool true], Value.string (a0.extract 1 a0.size),
          Value.tuple #[Value.string T, Value.bool true], Value.string T, Value.bool true, Value.bool true,
          Value.bool false, Value.bool false, Value.bool true, Value.bool false, Value.bool false, Value.string T,
          Value.bool false, Value.string T,
          Value.func (Fn.func 105) #[] #[Value.pointer (some { block := w.heap.size + 1 + 1 + 1, off := 0 })], Value.string x.1,
          undef, undef, undef, undef, undef, undef, undef, undef, undef, undef, undef, undef], defers := [] }) ?assign ?body ?done ?stop
        case keep =>
          intro W l o o' hl ho hc _
          refine (grownBy_putObj' W l o').block _ ?_ ?_
          · have := (Array.getElem?_eq_some_iff.1 ho).1; omega
          · intro e; injection e with e; omega
        case own =>
          rintro pre W W' row ⟨⟨v, hv, hrow⟩, ⟨h2, h3, hN⟩, hall, hB⟩ hg hr
          have hr' := fun r e => (hr r e).2
          exact ⟨⟨v, boxed_keep hv hg hr', row_keep hrow hg hr'⟩, ⟨boxed_keep h2 hg hr', boxed_keep h3 hg hr', boxed_keep hN hg hr'⟩, hall, hB.grown hg hB.size (fun k e => by have := (hr k e).1; omega)⟩
        case ownx =>
          rintro c pre W W' row ⟨hc, h2, h3, hx, hB⟩ hg hr
          have hr' := fun r e => (hr r e).2
          exact ⟨hc, boxed_keep h2 hg hr', boxed_keep h3 hg hr', hx, hB.grown hg hB.size (fun k e => by have := (hr k e).1; omega)⟩
        case assign =>
          intro l x W K hK
          gi_wp2
          exact hK
        case body =>
          rintro l pre x W ⟨⟨v, hv, hrow⟩, ⟨h2, h3, hN⟩, hall, hB⟩ hlt
          have hGW : GW true W := hG.keep hB
          have hps := parse_spec 1 x.1 (by decide) x.2
          have h1r : 1 ≤ n - 1 - 1 := by omega
          by_cases ht : isText x.1.data.toList = true
          · rw [if_pos ht] at hps
            obtain ⟨i0, hi, hz0, hz1, hz2⟩ := info_parts info29x
            have hpl := partsB_len T
            gi_wp2_with (first
              | (refine ⟨trivial, ?_⟩; gi_at_call 56; refine (CallsIn.inRound l (callsIn_wide.2 (value_Parse.calls 1 _ _ _ _ _ _ W hps hGW))).mono ?_; rintro e w5 ⟨rfl, hb5⟩; obtain ⟨o5, ho5⟩ : ∃ o5, o5 = (Obj.cells #[Value.int IntKind.u8 (readV x.1.data.toList).f0, Value.int IntKind.i64 (readV x.1.data.toList).f1, Value.int IntKind.i64 (readV x.1.data.toList).f2, Value.string (readV x.1.data.toList).f3] 23) := ⟨_, rfl⟩; have hv6 := (boxed_below hv hb5).alloc o5; have hrow6 := (row_below hrow hb5).alloc o5; have h26 := (boxed_below h2 hb5).alloc o5; have h36 := (boxed_below h3 hb5).alloc o5; have hN6 := (boxed_below hN hb5).alloc o5; rw [ho5] at hv6 hrow6 h26 h36 hN6; have hc7 := hv6.cell; have hf7 := hv6.frozen)
              | (gi_at_builtin; refine wpListIn_append_own _ rfl _ _ 29 rfl w.heap.size 23 i0 (.agg #[.int .u8 0, .int .i64 0, .int .i64 0, .string ⟨#[]⟩]) 4 40 Tryd.underlying29 hi hz0 hz1 hz2 rfl (by decide) _ _ _ rfl (hrow6.alloc _) ⟨_, 0, none⟩ 1 1 [Value.int IntKind.u8 (readV x.1.data.toList).f0, Value.int IntKind.i64 (readV x.1.data.toList).f1, Value.int IntKind.i64 (readV x.1.data.toList).f2, Value.string (readV x.1.data.toList).f3] rfl rfl ?news ?ones ?b1 ?b2 ?b3 ?_))
            case news =>
              have h9 := heap_alloc_new (w5.alloc o5) o5
              rw [World.size_alloc, ho5] at h9
              exact World.news_of_block h9
            case ones => simp [Value.oneCell']
            case b1 =>
              have h9 : maxLen = 9223372036854775807 := by decide
              omega
            case b2 => omega
            case b3 =>
              have h9 := hv6.lt
              rw [World.size_alloc]; omega
            intro v' w1 hown' hgrow _
            obtain ⟨g', cap', rfl⟩ := ownsRow_succ hown'
            obtain ⟨hv1, hv2, hr2, hk2, hb2⟩ := hv6.appended (by decide) hrow6 (by have h9 := hv6.lt; omega) (by omega) hown' hgrow
            have hc1 := hv1.cell
            have hf1 := hv1.frozen
            have g2 := boxed_after (v' := .slice (some ⟨g', 0, none⟩) (pre.length + 1) cap') h26 (by decide) hrow6 hgrow (B7 := w.heap.size + 1 + 1) (by omega)
            have g3 := boxed_after (v' := .slice (some ⟨g', 0, none⟩) (pre.length + 1) cap') h36 (by decide) hrow6 hgrow (B7 := w.heap.size + 1 + 1) (by omega)
            have gN := boxed_after (v' := .slice (some ⟨g', 0, none⟩) (pre.length + 1) cap') hN6 (by decide) hrow6 hgrow (B7 := w.heap.size + 1 + 1) (by omega)
            gi_wp2
            refine ⟨(((keeps_below hb5).trans (KeepsOthers.alloc _ _)).trans hk2).from _, ?_, ⟨_, hv2, ?_⟩, ⟨g2, g3, gN⟩, ?_, ?_⟩
            · exact (show _ = _ from gN).trans (show _ = _ from hN).symm
            · rw [vals_snoc, cellsV_snoc]
              simpa using hr2
            · intro y hy
              rcases List.mem_append.1 hy with h | h
              · exact hall y h
              · have : y = x := by simpa using h
                subst this; exact ht
            · exact ((hB.trans (hb5.mono hB.size)).alloc (Nat.le_trans hB.size hb5.size) _).trans hb2
          · rw [if_neg ht] at hps
            gi_wp2_with (first
              | (refine ⟨trivial, ?_⟩; gi_at_call 56; refine (CallsIn.inRound l (callsIn_wide.2 (value_Parse.calls 1 _ _ _ _ _ _ W hps hGW))).mono ?_; rintro e w5 ⟨rfl, hb5⟩; obtain ⟨o5, ho5⟩ : ∃ o5, o5 = (Obj.cells #[Value.int IntKind.u8 0, Value.int IntKind.i64 0, Value.int IntKind.i64 0, Value.string ⟨#[]⟩] 23) := ⟨_, rfl⟩; have h26 := (boxed_below h2 hb5).alloc o5; have h36 := (boxed_below h3 hb5).alloc o5; rw [ho5] at h26 h36; have hc2 := h26.cell; have hf2 := h26.frozen; have hc3 := h36.cell; have hf3 := h36.frozen))
            refine ⟨(((keeps_below hb5).trans (KeepsOthers.alloc _ _)).trans ((KeepsOthers.setCell _ _ _).trans (KeepsOthers.setCell _ _ _))).from _, rfl, (h26.set _).other (by omega) _, ((h36.other (by omega) _).set _), ⟨x, by simp, by simpa using ht⟩, ?_⟩
            exact (((hB.trans (hb5.mono hB.size)).alloc (Nat.le_trans hB.size hb5.size) _).setCell (p := ⟨w.heap.size, 0, none⟩) (Nat.le_refl _) _).setCell (p := ⟨w.heap.size + 1, 0, none⟩) (Nat.le_add_right _ _) _
        case done =>
          rintro D ys W hD hys ⟨⟨v, hv, hrow⟩, ⟨h2, h3, hN⟩, hall, hB⟩ hK
          rw [rowOf_all hys hall] at hp
          obtain ⟨rfl, rfl⟩ := Prod.mk.inj hp
          obtain ⟨A, m, c, rfl⟩ : ∃ A m c, v = .slice A m c := by
            rcases hrow.2 with ⟨e, _⟩ | ⟨g, cap, cur, e, _⟩
            · exact ⟨_, _, _, e⟩
            · exact ⟨_, _, _, e⟩
          have hc7 := hv.cell
          have hc2 := h2.cell
          have hf2 := h2.frozen
          have hc3 := h3.cell
          have hf3 := h3.frozen
          gi_wp2
          have hK2 := ((KeepsOthers.setCell W ⟨w.heap.size, 0, none⟩ (.slice A m c)).trans (KeepsOthers.setCell _ ⟨w.heap.size + 1, 0, none⟩ (.int .i64 0))).same D _ hK rfl
          have hr : ∀ r, some D = some r → ∃ o : Obj, ((W.setCell ⟨w.heap.size, 0, none⟩ (.slice A m c)).setCell ⟨w.heap.size + 1, 0, none⟩ (.int .i64 0)).heap[r]? = some o ∧ o.isCells = false := fun r e => by cases e; exact ⟨_, hK2, rfl⟩
          have g2 := boxed_keep ((h2.set (.slice A m c)).other (by omega : w.heap.size ≠ w.heap.size + 1) (.int .i64 0)) (grownBy_putObj' _ D (.deferred none)) hr
          have g3 := boxed_keep ((h3.other (by omega : w.heap.size + 1 ≠ w.heap.size) (.slice A m c)).set (.int .i64 0)) (grownBy_putObj' _ D (.deferred none)) hr
          have r1 := hrow.kept (grownBy_setCell' W w.heap.size (.slice A m c)) (.inr (h2.not_row (by decide) hrow).symm)
          have r2 := r1.kept (grownBy_setCell' _ (w.heap.size + 1) (.int .i64 0)) (.inr ((h3.other (by omega : w.heap.size + 1 ≠ w.heap.size) (.slice A m c)).not_row (by decide) r1).symm)
          have r3 := row_keep r2 (grownBy_putObj' _ D (.deferred none)) hr
          have hB2 := (hB.setCell (p := ⟨w.heap.size, 0, none⟩) (Nat.le_refl _) (.slice A m c)).setCell (p := ⟨w.heap.size + 1, 0, none⟩) (Nat.le_add_right _ _) (.int .i64 0)
          refine ⟨by simp, .inl ⟨_, _, rfl, run_takeDeferred hK2, ?_⟩⟩
          refine ⟨_, results_two rfl rfl g2.cell g3.cell, _, rfl, own_R (by unfold vals at r3 ⊢; rw [List.length_map]; exact r3), ?_⟩
          exact hB2.trans (belowK_b (w := w) (Nat.le_refl _) _ D _ _ (by omega) hK2 rfl rfl)
        case stop =>
          rintro D c pre W hD hpre ⟨rfl, h2, h3, ⟨x, hx, hxt⟩, hB⟩ hK
          rw [rowOf_none hpre hx hxt] at hp
          obtain ⟨rfl, rfl⟩ := Prod.mk.inj hp
          gi_wp2
          have hr : ∀ r, some D = some r → ∃ o : Obj, W.heap[r]? = some o ∧ o.isCells = false := fun r e => by cases e; exact ⟨_, hK, rfl⟩
          have g2 := boxed_keep h2 (grownBy_putObj' _ D (.deferred none)) hr
          have g3 := boxed_keep h3 (grownBy_putObj' _ D (.deferred none)) hr
          refine ⟨by simp, .inl ⟨_, _, rfl, run_takeDeferred hK, ?_⟩⟩
          refine ⟨_, results_two rfl rfl g2.cell g3.cell, _, rfl, Kd.R_nil _ _ _ _ _, ?_⟩
          exact hB.trans (belowK_b (w := w) (Nat.le_refl _) _ D _ _ (by omega) hK rfl rfl)
    · rw [if_neg e2] at c2
      rw [if_neg (fun h => e2 h.2)] at hp
      obtain ⟨rfl, rfl⟩ := Prod.mk.inj hp
      gi_wp2_with (first | (refine ⟨trivial, ?_⟩; gi_at_call 87; refine (callsIn_wide.2 (strings_CutPrefix.calls _ _ _ _ _ c1)).mono ?_; rintro e w' ⟨rfl, ⟨⟨kd, rfl⟩⟩⟩) | (refine ⟨trivial, ?_⟩; gi_at_call 88; refine (callsIn_wide.2 (strings_CutSuffix.calls _ _ _ _ _ c2)).mono ?_; rintro e w' ⟨rfl, ⟨⟨kd2, rfl⟩⟩⟩))
      refine ⟨.tuple #[.slice none 0 0, .int .i64 4], by (simp [results, Tryd.f63, asAddr]; go_simp), ⟨_, rfl, Kd.R_nil _ _ _ _ _, ?_⟩⟩
      repeat (first | exact Below.refl _ _ | apply below_alloc | apply pw_below_drewN | refine below_set ?_ (Nat.le_refl _) | refine below_set ?_ (Nat.le_add_right _ _))
  · rw [if_neg e1] at c1
    rw [if_neg (fun h => e1 h.1)] at hp
    obtain ⟨rfl, rfl⟩ := Prod.mk.inj hp
    obtain ⟨t, b, c2⟩ : ∃ t b, strings_CutSuffix.f a0 ⟨#[41]⟩ = some (t, b) := ⟨_, _, (cut_last a0 41 hc.2).trans rfl⟩
    gi_wp2_with (first | (refine ⟨trivial, ?_⟩; gi_at_call 87; refine (callsIn_wide.2 (strings_CutPrefix.calls _ _ _ _ _ c1)).mono ?_; rintro e w' ⟨rfl, ⟨⟨kd, rfl⟩⟩⟩) | (refine ⟨trivial, ?_⟩; gi_at_call 88; refine (callsIn_wide.2 (strings_CutSuffix.calls _ _ _ _ _ c2)).mono ?_; rintro e w' ⟨rfl, ⟨⟨kd2, rfl⟩⟩⟩))
    refine ⟨.tuple #[.slice none 0 0, .int .i64 4], by (simp [results, Tryd.f63, asAddr]; go_simp), ⟨_, rfl, Kd.R_nil _ _ _ _ _, ?_⟩⟩
    repeat (first | exact Below.refl _ _ | apply below_alloc | apply pw_below_drewN | refine below_set ?_ (Nat.le_refl _) | refine below_set ?_ (Nat.le_add_right _ _))
end

/-! ### covenantlaw05_says: function 65 -/
def covenantlaw05_says.f (k : Nat) (a0 : ByteArray) (l1 : List (S23)) : Option (Bool) := (row_Parse.f k a0).bind fun bt417 => ((row_Text.f k l1).bind fun t421 => (if t421.toList = a0.toList then (if bt417.2 = 0 then ((covenantref05_Same.f k l1 bt417.1).bind fun t422 => (some t422)) else (some false)) else (some false)))
theorem covenantlaw05_says.mono : ∀ a0 a1 k, LeO (covenantlaw05_says.f k a0 a1) (covenantlaw05_says.f (k + 1) a0 a1) := by
  intro a0 a1 k
  unfold covenantlaw05_says.f
  repeat' first
      | (with_reducible exact covenantref05_Same.mono _ _ _)
      | (with_reducible exact row_Parse.mono _ _)
      | (with_reducible exact row_Text.mono _ _)
      | (with_reducible exact LeO.refl _)
      | (with_reducible exact LeO.none _)
      | (with_reducible refine LeO.ite ?_ ?_)
      | (with_reducible refine LeO.bind ?_ (fun _ => ?_))
      | exact covenantref05_Same.mono _ _ _
      | exact row_Parse.mono _ _
      | exact row_Text.mono _ _
      | exact LeO.none _
      | refine LeO.ite ?_ ?_
      | refine LeO.bind ?_ (fun _ => ?_)
set_option maxHeartbeats 8000000 in
set_option maxRecDepth 100000 in
theorem covenantlaw05_says.calls (k : Nat) (a0 : ByteArray) (A1 : Option Addr) (c1 : Nat) (l1 : List (S23)) (r : Bool) (w : World) (hr1 : Kd.C k23 w A1 l1.length l1) (hc1 : l1.length ≤ c1) (h : covenantlaw05_says.f k a0 l1 = some r) (hG : GW true w) :
    Calls Tryd.prog 65 #[.string a0, .slice A1 l1.length c1] w fun e w' => e = .returned (.bool r) ∧ Below w.heap.size w w' := by
  have HG := Aside0.mk hG
  clear hG
  have HR1 := Aside0.mk hr1
  have HC1 := Aside0.mk hc1
  clear hr1 hc1
  have HB := Aside0.mk (Below.refl w.heap.size w)
  have H : ((row_Parse.f k a0).bind fun bt417 => ((row_Text.f k l1).bind fun t421 => (if t421.toList = a0.toList then (if bt417.2 = 0 then ((covenantref05_Same.f k l1 bt417.1).bind fun t422 => (some t422)) else (some false)) else (some false)))) = some r := h
  clear h
  replace H := Option.bind_eq_some_iff.mp H
  obtain ⟨⟨t417, t418⟩, A30, H⟩ := H
  replace H : ((row_Text.f k l1).bind fun t421 => (if t421.toList = a0.toList then (if t418 = 0 then ((covenantref05_Same.f k l1 t417).bind fun t422 => (some t422)) else (some false)) else (some false))) = some r := H
  have A3 := Aside0.mk A30
  clear A30
  replace H := Option.bind_eq_some_iff.mp H
  obtain ⟨t421, A40, H⟩ := H
  replace H : (if t421.toList = a0.toList then (if t418 = 0 then ((covenantref05_Same.f k l1 t417).bind fun t422 => (some t422)) else (some false)) else (some false)) = some r := H
  have A4 := Aside0.mk A40
  clear A40
  by_cases c5 : t421.toList = a0.toList
  · rw [if_pos c5] at H
    have c5b0 : (t421.toList == a0.toList) = true := beq_iff_eq.mpr c5
    have c5b1 : (t421.toList != a0.toList) = false := bne_eq_false_iff_eq.mpr c5
    clear c5
    by_cases c6 : t418 = 0
    · rw [if_pos c6] at H
      have c6b0 : (t418 == 0) = true := beq_iff_eq.mpr c6
      have c6b1 : (t418 != 0) = false := bne_eq_false_iff_eq.mpr c6
      clear c6
      replace H := Option.bind_eq_some_iff.mp H
      obtain ⟨t422, A70, H⟩ := H
      replace H : (some t422) = some r := H
      have A7 := Aside0.mk A70
      clear A70
      obtain rfl := Option.some.inj H
      go_enter Tryd.func65, Tryd.ntmps65
      go_wp2_with (first | ((with_reducible refine gate_callee (f := 63) rfl ?_); refine goesL_ (some 9) rfl rfl Tryd.func63 (by kernel_rfl) rfl #[.string a0] rfl (by (try simp only [List.map_toArray, List.map_cons, List.map_nil]); first | done | rfl | (simp only [List.length_drop, List.length_take]; rfl)) ?_; (with_reducible refine (row_Parse.calls k a0 t417 t418 _ A3.out ?sideG).mono ?_); (case sideG => exact GW.keep HG.out (by repeat (first | (with_reducible first | exact HB.out | apply below_alloc | apply pw_below_drewN | apply below_drew1) | exact HB.out))); rintro e w8 ⟨v419, rfl, ho0, hb⟩; refine ⟨_, rfl, ?_⟩; have n0_ := Aside0.mk (Kd.R_lower ho0 (below_size (by repeat (first | (with_reducible first | exact HB.out | apply below_alloc | apply pw_below_drewN | apply below_drew1) | exact HB.out)))); have n1_ := Aside0.mk (below_step (by repeat (first | (with_reducible first | exact HB.out | apply below_alloc | apply pw_below_drewN | apply below_drew1) | exact HB.out)) hb); clear HB; have HO420 := n0_; have HB := n1_; clear n0_ n1_; (try clear hb); (try clear hb2); (try clear hk); (try clear hi); (try clear ho0)) | ((with_reducible refine gate_callee (f := 32) rfl ?_); refine goesL_ (some 13) rfl rfl Tryd.func32 (by kernel_rfl) rfl #[.slice A1 l1.length c1] rfl (by (try simp only [List.map_toArray, List.map_cons, List.map_nil]); first | done | rfl | (simp only [List.length_drop, List.length_take]; rfl)) ?_; (with_reducible refine (row_Text.calls k _ _ l1 t421 _ ?side1 ?side2 A4.out ?sideG (q_ := true)).mono ?_); (case sideG => exact GW.keep HG.out (by repeat (first | (with_reducible first | exact HB.out | apply below_alloc | apply pw_below_drewN | apply below_drew1) | exact HB.out))); (case side1 => repeat (first | exact (Kd.C_below HR1.out HB.out) | (with_reducible refine Kd.C_alloc ?_ _) | (with_reducible refine Kd.C_drewN ?_ _) | (with_reducible refine Kd.C_drew ?_))); (case side2 => exact HC1.out); rintro e w9 ⟨rfl, hb⟩; refine ⟨_, rfl, ?_⟩; have n0_ := Aside0.mk (Kd.R_below (by (with_reducible repeat (first | apply Kd.R_alloc | apply Kd.R_drewN | apply Kd.R_drew)); exact HO420.out) hb); have n1_ := Aside0.mk (below_step (by repeat (first | (with_reducible first | exact HB.out | apply below_alloc | apply pw_below_drewN | apply below_drew1) | exact HB.out)) hb); clear HO420; clear HB; have HO420 := n0_; have HB := n1_; clear n0_ n1_; (try clear hb); (try clear hb2); (try clear hk); (try clear hi); obtain ⟨Ao10, co10, eo10⟩ := Kd.R_slice HO420.out; subst eo10) | (go_at_call 35; (with_reducible refine (covenantref05_Same.calls k _ _ l1 _ _ t417 t422 _ ?side1 ?side2 ?side3 ?side4 A7.out).mono ?_); (case side1 => repeat (first | exact (Kd.C_below HR1.out HB.out) | (with_reducible refine Kd.C_alloc ?_ _) | (with_reducible refine Kd.C_drewN ?_ _) | (with_reducible refine Kd.C_drew ?_))); (case side2 => exact HC1.out); (case side3 => repeat (first | exact (Kd.R_reads' HO420.out).2.2 | (with_reducible refine Kd.C_alloc ?_ _) | (with_reducible refine Kd.C_drewN ?_ _) | (with_reducible refine Kd.C_drew ?_))); (case side4 => exact (Kd.R_reads' HO420.out).2.1); rintro e w' ⟨rfl, ⟨nd, rfl⟩⟩))
      go_ret
      exact ⟨by first | rfl | (simp [errW_none, errW_some] <;> rfl) | (simp [*, errW_none, errW_some] <;> rfl), by repeat (first | (with_reducible first | exact HB.out | apply below_alloc | apply pw_below_drewN | apply below_drew1) | exact HB.out)⟩
    · rw [if_neg c6] at H
      have c6b0 : (t418 == 0) = false := beq_eq_false_iff_ne.mpr c6
      have c6b1 : (t418 != 0) = true := bne_iff_ne.mpr c6
      obtain rfl := Option.some.inj H
      go_enter Tryd.func65, Tryd.ntmps65
      go_wp2_with (first | ((with_reducible refine gate_callee (f := 63) rfl ?_); refine goesL_ (some 9) rfl rfl Tryd.func63 (by kernel_rfl) rfl #[.string a0] rfl (by (try simp only [List.map_toArray, List.map_cons, List.map_nil]); first | done | rfl | (simp only [List.length_drop, List.length_take]; rfl)) ?_; (with_reducible refine (row_Parse.calls k a0 t417 t418 _ A3.out ?sideG).mono ?_); (case sideG => exact GW.keep HG.out (by repeat (first | (with_reducible first | exact HB.out | apply below_alloc | apply pw_below_drewN | apply below_drew1) | exact HB.out))); rintro e w11 ⟨v419, rfl, ho0, hb⟩; refine ⟨_, rfl, ?_⟩; have n0_ := Aside0.mk (Kd.R_lower ho0 (below_size (by repeat (first | (with_reducible first | exact HB.out | apply below_alloc | apply pw_below_drewN | apply below_drew1) | exact HB.out)))); have n1_ := Aside0.mk (below_step (by repeat (first | (with_reducible first | exact HB.out | apply below_alloc | apply pw_below_drewN | apply below_drew1) | exact HB.out)) hb); clear HB; have HO420 := n0_; have HB := n1_; clear n0_ n1_; (try clear hb); (try clear hb2); (try clear hk); (try clear hi); (try clear ho0)) | ((with_reducible refine gate_callee (f := 32) rfl ?_); refine goesL_ (some 13) rfl rfl Tryd.func32 (by kernel_rfl) rfl #[.slice A1 l1.length c1] rfl (by (try simp only [List.map_toArray, List.map_cons, List.map_nil]); first | done | rfl | (simp only [List.length_drop, List.length_take]; rfl)) ?_; (with_reducible refine (row_Text.calls k _ _ l1 t421 _ ?side1 ?side2 A4.out ?sideG (q_ := true)).mono ?_); (case sideG => exact GW.keep HG.out (by repeat (first | (with_reducible first | exact HB.out | apply below_alloc | apply pw_below_drewN | apply below_drew1) | exact HB.out))); (case side1 => repeat (first | exact (Kd.C_below HR1.out HB.out) | (with_reducible refine Kd.C_alloc ?_ _) | (with_reducible refine Kd.C_drewN ?_ _) | (with_reducible refine Kd.C_drew ?_))); (case side2 => exact HC1.out); rintro e w12 ⟨rfl, hb⟩; refine ⟨_, rfl, ?_⟩; have n0_ := Aside0.mk (Kd.R_below (by (with_reducible repeat (first | apply Kd.R_alloc | apply Kd.R_drewN | apply Kd.R_drew)); exact HO420.out) hb); have n1_ := Aside0.mk (below_step (by repeat (first | (with_reducible first | exact HB.out | apply below_alloc | apply pw_below_drewN | apply below_drew1) | exact HB.out)) hb); clear HO420; clear HB; have HO420 := n0_; have HB := n1_; clear n0_ n1_; (try clear hb); (try clear hb2); (try clear hk); (try clear hi)))
      go_ret
      exact ⟨by first | rfl | (simp [errW_none, errW_some] <;> rfl) | (simp [*, errW_none, errW_some] <;> rfl), by repeat (first | (with_reducible first | exact HB.out | apply below_alloc | apply pw_below_drewN | apply below_drew1) | exact HB.out)⟩
  · rw [if_neg c5] at H
    have c5b0 : (t421.toList == a0.toList) = false := beq_eq_false_iff_ne.mpr c5
    have c5b1 : (t421.toList != a0.toList) = true := bne_iff_ne.mpr c5
    obtain rfl := Option.some.inj H
    go_enter Tryd.func65, Tryd.ntmps65
    go_wp2_with (first | ((with_reducible refine gate_callee (f := 63) rfl ?_); refine goesL_ (some 9) rfl rfl Tryd.func63 (by kernel_rfl) rfl #[.string a0] rfl (by (try simp only [List.map_toArray, List.map_cons, List.map_nil]); first | done | rfl | (simp only [List.length_drop, List.length_take]; rfl)) ?_; (with_reducible refine (row_Parse.calls k a0 t417 t418 _ A3.out ?sideG).mono ?_); (case sideG => exact GW.keep HG.out (by repeat (first | (with_reducible first | exact HB.out | apply below_alloc | apply pw_below_drewN | apply below_drew1) | exact HB.out))); rintro e w13 ⟨v419, rfl, ho0, hb⟩; refine ⟨_, rfl, ?_⟩; have n0_ := Aside0.mk (Kd.R_lower ho0 (below_size (by repeat (first | (with_reducible first | exact HB.out | apply below_alloc | apply pw_below_drewN | apply below_drew1) | exact HB.out)))); have n1_ := Aside0.mk (below_step (by repeat (first | (with_reducible first | exact HB.out | apply below_alloc | apply pw_below_drewN | apply below_drew1) | exact HB.out)) hb); clear HB; have HO420 := n0_; have HB := n1_; clear n0_ n1_; (try clear hb); (try clear hb2); (try clear hk); (try clear hi); (try clear ho0)) | ((with_reducible refine gate_callee (f := 32) rfl ?_); refine goesL_ (some 13) rfl rfl Tryd.func32 (by kernel_rfl) rfl #[.slice A1 l1.length c1] rfl (by (try simp only [List.map_toArray, List.map_cons, List.map_nil]); first | done | rfl | (simp only [List.length_drop, List.length_take]; rfl)) ?_; (with_reducible refine (row_Text.calls k _ _ l1 t421 _ ?side1 ?side2 A4.out ?sideG (q_ := true)).mono ?_); (case sideG => exact GW.keep HG.out (by repeat (first | (with_reducible first | exact HB.out | apply below_alloc | apply pw_below_drewN | apply below_drew1) | exact HB.out))); (case side1 => repeat (first | exact (Kd.C_below HR1.out HB.out) | (with_reducible refine Kd.C_alloc ?_ _) | (with_reducible refine Kd.C_drewN ?_ _) | (with_reducible refine Kd.C_drew ?_))); (case side2 => exact HC1.out); rintro e w14 ⟨rfl, hb⟩; refine ⟨_, rfl, ?_⟩; have n0_ := Aside0.mk (Kd.R_below (by (with_reducible repeat (first | apply Kd.R_alloc | apply Kd.R_drewN | apply Kd.R_drew)); exact HO420.out) hb); have n1_ := Aside0.mk (below_step (by repeat (first | (with_reducible first | exact HB.out | apply below_alloc | apply pw_below_drewN | apply below_drew1) | exact HB.out)) hb); clear HO420; clear HB; have HO420 := n0_; have HB := n1_; clear n0_ n1_; (try clear hb); (try clear hb2); (try clear hk); (try clear hi)))
    go_ret
    exact ⟨by first | rfl | (simp [errW_none, errW_some] <;> rfl) | (simp [*, errW_none, errW_some] <;> rfl), by repeat (first | (with_reducible first | exact HB.out | apply below_alloc | apply pw_below_drewN | apply below_drew1) | exact HB.out)⟩

/-! ### covenantlaw05_text: function 66 -/
def covenantlaw05_text.f (a0 : ByteArray) : Option (Int × Int × Int × ByteArray) := some (3, 0, 0, a0)
set_option maxHeartbeats 8000000 in
set_option maxRecDepth 100000 in
theorem covenantlaw05_text.calls (a0 : ByteArray) (r1 : Int) (r2 : Int) (r3 : Int) (r4 : ByteArray) (w : World) (h : covenantlaw05_text.f a0 = some (r1, r2, r3, r4)) :
    Calls Tryd.prog 66 #[.string a0] w fun e w' => e = .returned (.agg #[.int .u8 r1, .int .i64 r2, .int .i64 r3, .string r4]) ∧ Below w.heap.size w w' := by
  have hu23 := Tryd.underlying23
  have HB := Aside0.mk (Below.refl w.heap.size w)
  have H : (some (3, 0, 0, a0)) = some (r1, r2, r3, r4) := h
  clear h
  simp only [Option.some.injEq, Prod.mk.injEq] at H
  obtain ⟨rfl, rfl, rfl, rfl⟩ := H
  go_enter Tryd.func66, Tryd.ntmps66
  go_wp2_with (first | ((with_reducible refine gate_dst (N := 2) rfl ?_); refine box_event ?hg (N := 2) ?hd (cs := #[.int .u8 0, .int .i64 0, .int .i64 0, .string (⟨#[]⟩ : ByteArray)]) (t := 23) ?hr ?_; (case hd => rfl); (case hg => rfl); (case hr => first | (go_simp; done) | (go_simp; rfl)); intro gb423 hg w2 hbox hb; have n0_ := Aside0.mk (below_step (by repeat (first | (with_reducible first | exact HB.out | apply below_alloc | apply pw_below_drewN | apply below_drew1) | exact HB.out)) hb); have n1_ := Aside0.mk (hbox); have n2_ := Aside0.mk ((by rw [hg]; exact (below_size (by repeat (first | (with_reducible first | exact HB.out | apply below_alloc | apply pw_below_drewN | apply below_drew1) | exact HB.out))) : w.heap.size ≤ gb423)); have n3_ := Aside0.mk ((by rw [hg]; exact (below_size (by repeat (first | (with_reducible first | exact HB.out | apply below_alloc | apply pw_below_drewN | apply below_drew1) | exact HB.out))) : w.heap.size ≤ gb423)); clear HB; have HB := n0_; have BK423 := n1_; have GW423 := n2_; have GE423 := n3_; clear n0_ n1_ n2_ n3_; clear hb hbox hg; have hcz3_0 : w2.cell? ⟨gb423, 0, none⟩ = some (.int .u8 0) := (blk_cell BK423.out 0).trans rfl; have hcz3_1 : w2.cell? ⟨gb423, 1, none⟩ = some (.int .i64 0) := (blk_cell BK423.out 1).trans rfl; have hcz3_2 : w2.cell? ⟨gb423, 2, none⟩ = some (.int .i64 0) := (blk_cell BK423.out 2).trans rfl; have hcz3_3 : w2.cell? ⟨gb423, 3, none⟩ = some (.string (⟨#[]⟩ : ByteArray)) := (blk_cell BK423.out 3).trans rfl; have hfz3_0 := blk_frozen BK423.out 0; have hfz3_1 := blk_frozen BK423.out 1; have hfz3_2 := blk_frozen BK423.out 2; have hfz3_3 := blk_frozen BK423.out 3))
  refine bodyPost_ret (results_cell_row rfl _ _ gb423 23 #[.int .u8 3, .int .i64 0, .int .i64 0, .string a0] (0, 0) _ rfl (by (with_reducible repeat (first | refine blk_drewN ?_ _ | refine blk_drew ?_ | refine blk_alloc ?_ _)); refine blk_put (cs := #[.int .u8 3, .int .i64 0, .int .i64 0, .string (⟨#[]⟩ : ByteArray)]) ?_ 3 _ rfl; (with_reducible repeat (first | refine blk_drewN ?_ _ | refine blk_drew ?_ | refine blk_alloc ?_ _)); refine blk_put (cs := #[.int .u8 3, .int .i64 0, .int .i64 0, .string (⟨#[]⟩ : ByteArray)]) ?_ 2 _ rfl; (with_reducible repeat (first | refine blk_drewN ?_ _ | refine blk_drew ?_ | refine blk_alloc ?_ _)); refine blk_put (cs := #[.int .u8 3, .int .i64 0, .int .i64 0, .string (⟨#[]⟩ : ByteArray)]) ?_ 1 _ rfl; (with_reducible repeat (first | refine blk_drewN ?_ _ | refine blk_drew ?_ | refine blk_alloc ?_ _)); refine blk_put (cs := #[.int .u8 0, .int .i64 0, .int .i64 0, .string (⟨#[]⟩ : ByteArray)]) ?_ 0 _ rfl; (with_reducible repeat (first | refine blk_drewN ?_ _ | refine blk_drew ?_ | refine blk_alloc ?_ _)); exact BK423.out) Tryd.underlying23 rfl (by kernel_rfl)) rfl ?_
  exact ⟨by first | rfl | (simp [errW_none, errW_some] <;> rfl) | (simp [*, errW_none, errW_some] <;> rfl), by repeat (first | (with_reducible first | exact HB.out | apply below_alloc | apply pw_below_drewN | apply below_drew1 | refine below_set ?_ GE423.out) | exact HB.out)⟩

/-! ### covenantlaw05_number: function 67 -/
def covenantlaw05_number.f (a0 : Int) : Option (Int × Int × Int × ByteArray) := some (1, a0, 0, (⟨#[]⟩ : ByteArray))
set_option maxHeartbeats 8000000 in
set_option maxRecDepth 100000 in
theorem covenantlaw05_number.calls (a0 : Int) (r1 : Int) (r2 : Int) (r3 : Int) (r4 : ByteArray) (w : World) (h : covenantlaw05_number.f a0 = some (r1, r2, r3, r4)) :
    Calls Tryd.prog 67 #[.int .i64 a0] w fun e w' => e = .returned (.agg #[.int .u8 r1, .int .i64 r2, .int .i64 r3, .string r4]) ∧ Below w.heap.size w w' := by
  have hu23 := Tryd.underlying23
  have HB := Aside0.mk (Below.refl w.heap.size w)
  have H : (some (1, a0, 0, (⟨#[]⟩ : ByteArray))) = some (r1, r2, r3, r4) := h
  clear h
  simp only [Option.some.injEq, Prod.mk.injEq] at H
  obtain ⟨rfl, rfl, rfl, rfl⟩ := H
  go_enter Tryd.func67, Tryd.ntmps67
  go_wp2_with (first | ((with_reducible refine gate_dst (N := 2) rfl ?_); refine box_event ?hg (N := 2) ?hd (cs := #[.int .u8 0, .int .i64 0, .int .i64 0, .string (⟨#[]⟩ : ByteArray)]) (t := 23) ?hr ?_; (case hd => rfl); (case hg => rfl); (case hr => first | (go_simp; done) | (go_simp; rfl)); intro gb424 hg w2 hbox hb; have n0_ := Aside0.mk (below_step (by repeat (first | (with_reducible first | exact HB.out | apply below_alloc | apply pw_below_drewN | apply below_drew1) | exact HB.out)) hb); have n1_ := Aside0.mk (hbox); have n2_ := Aside0.mk ((by rw [hg]; exact (below_size (by repeat (first | (with_reducible first | exact HB.out | apply below_alloc | apply pw_below_drewN | apply below_drew1) | exact HB.out))) : w.heap.size ≤ gb424)); have n3_ := Aside0.mk ((by rw [hg]; exact (below_size (by repeat (first | (with_reducible first | exact HB.out | apply below_alloc | apply pw_below_drewN | apply below_drew1) | exact HB.out))) : w.heap.size ≤ gb424)); clear HB; have HB := n0_; have BK424 := n1_; have GW424 := n2_; have GE424 := n3_; clear n0_ n1_ n2_ n3_; clear hb hbox hg; have hcz3_0 : w2.cell? ⟨gb424, 0, none⟩ = some (.int .u8 0) := (blk_cell BK424.out 0).trans rfl; have hcz3_1 : w2.cell? ⟨gb424, 1, none⟩ = some (.int .i64 0) := (blk_cell BK424.out 1).trans rfl; have hcz3_2 : w2.cell? ⟨gb424, 2, none⟩ = some (.int .i64 0) := (blk_cell BK424.out 2).trans rfl; have hcz3_3 : w2.cell? ⟨gb424, 3, none⟩ = some (.string (⟨#[]⟩ : ByteArray)) := (blk_cell BK424.out 3).trans rfl; have hfz3_0 := blk_frozen BK424.out 0; have hfz3_1 := blk_frozen BK424.out 1; have hfz3_2 := blk_frozen BK424.out 2; have hfz3_3 := blk_frozen BK424.out 3))
  refine bodyPost_ret (results_cell_row rfl _ _ gb424 23 #[.int .u8 1, .int .i64 a0, .int .i64 0, .string (⟨#[]⟩ : ByteArray)] (0, 0) _ rfl (by (with_reducible repeat (first | refine blk_drewN ?_ _ | refine blk_drew ?_ | refine blk_alloc ?_ _)); refine blk_put (cs := #[.int .u8 1, .int .i64 a0, .int .i64 0, .string (⟨#[]⟩ : ByteArray)]) ?_ 3 _ rfl; (with_reducible repeat (first | refine blk_drewN ?_ _ | refine blk_drew ?_ | refine blk_alloc ?_ _)); refine blk_put (cs := #[.int .u8 1, .int .i64 a0, .int .i64 0, .string (⟨#[]⟩ : ByteArray)]) ?_ 2 _ rfl; (with_reducible repeat (first | refine blk_drewN ?_ _ | refine blk_drew ?_ | refine blk_alloc ?_ _)); refine blk_put (cs := #[.int .u8 1, .int .i64 0, .int .i64 0, .string (⟨#[]⟩ : ByteArray)]) ?_ 1 _ rfl; (with_reducible repeat (first | refine blk_drewN ?_ _ | refine blk_drew ?_ | refine blk_alloc ?_ _)); refine blk_put (cs := #[.int .u8 0, .int .i64 0, .int .i64 0, .string (⟨#[]⟩ : ByteArray)]) ?_ 0 _ rfl; (with_reducible repeat (first | refine blk_drewN ?_ _ | refine blk_drew ?_ | refine blk_alloc ?_ _)); exact BK424.out) Tryd.underlying23 rfl (by kernel_rfl)) rfl ?_
  exact ⟨by first | rfl | (simp [errW_none, errW_some] <;> rfl) | (simp [*, errW_none, errW_some] <;> rfl), by repeat (first | (with_reducible first | exact HB.out | apply below_alloc | apply pw_below_drewN | apply below_drew1 | refine below_set ?_ GE424.out) | exact HB.out)⟩

/-! ### covenantlaw05_none: function 68 -/
def covenantlaw05_none.f (k : Nat) (a0 : ByteArray) : Option (Bool) := (row_Parse.f k a0).bind fun bt425 => (if bt425.2 = 4 then (some ((bt425.1.length : Int) == 0)) else (some false))
theorem covenantlaw05_none.mono : ∀ a0 k, LeO (covenantlaw05_none.f k a0) (covenantlaw05_none.f (k + 1) a0) := by
  intro a0 k
  unfold covenantlaw05_none.f
  repeat' first
      | (with_reducible exact row_Parse.mono _ _)
      | (with_reducible exact LeO.refl _)
      | (with_reducible exact LeO.none _)
      | (with_reducible refine LeO.ite ?_ ?_)
      | (with_reducible refine LeO.bind ?_ (fun _ => ?_))
      | exact row_Parse.mono _ _
      | exact LeO.none _
      | refine LeO.ite ?_ ?_
      | refine LeO.bind ?_ (fun _ => ?_)
set_option maxHeartbeats 8000000 in
set_option maxRecDepth 100000 in
theorem covenantlaw05_none.calls (k : Nat) (a0 : ByteArray) (r : Bool) (w : World) (h : covenantlaw05_none.f k a0 = some r) (hG : GW true w) :
    Calls Tryd.prog 68 #[.string a0] w fun e w' => e = .returned (.bool r) ∧ Below w.heap.size w w' := by
  have HG := Aside0.mk hG
  clear hG
  have HB := Aside0.mk (Below.refl w.heap.size w)
  have H : ((row_Parse.f k a0).bind fun bt425 => (if bt425.2 = 4 then (some ((bt425.1.length : Int) == 0)) else (some false))) = some r := h
  clear h
  replace H := Option.bind_eq_some_iff.mp H
  obtain ⟨⟨t425, t426⟩, A20, H⟩ := H
  replace H : (if t426 = 4 then (some ((t425.length : Int) == 0)) else (some false)) = some r := H
  have A2 := Aside0.mk A20
  clear A20
  by_cases c3 : t426 = 4
  · rw [if_pos c3] at H
    have c3b0 : (t426 == 4) = true := beq_iff_eq.mpr c3
    have c3b1 : (t426 != 4) = false := bne_eq_false_iff_eq.mpr c3
    clear c3
    obtain rfl := Option.some.inj H
    go_enter Tryd.func68, Tryd.ntmps68
    go_wp2_with (first | ((with_reducible refine gate_callee (f := 63) rfl ?_); refine goesL_ (some 7) rfl rfl Tryd.func63 (by kernel_rfl) rfl #[.string a0] rfl (by (try simp only [List.map_toArray, List.map_cons, List.map_nil]); first | done | rfl | (simp only [List.length_drop, List.length_take]; rfl)) ?_; (with_reducible refine (row_Parse.calls k a0 t425 t426 _ A2.out ?sideG).mono ?_); (case sideG => exact GW.keep HG.out (by repeat (first | (with_reducible first | exact HB.out | apply below_alloc | apply pw_below_drewN | apply below_drew1) | exact HB.out))); rintro e w4 ⟨v427, rfl, ho0, hb⟩; refine ⟨_, rfl, ?_⟩; have n0_ := Aside0.mk (Kd.R_lower ho0 (below_size (by repeat (first | (with_reducible first | exact HB.out | apply below_alloc | apply pw_below_drewN | apply below_drew1) | exact HB.out)))); have n1_ := Aside0.mk (below_step (by repeat (first | (with_reducible first | exact HB.out | apply below_alloc | apply pw_below_drewN | apply below_drew1) | exact HB.out)) hb); clear HB; have HO428 := n0_; have HB := n1_; clear n0_ n1_; (try clear hb); (try clear hb2); (try clear hk); (try clear hi); (try clear ho0); obtain ⟨Ao5, co5, eo5⟩ := Kd.R_slice HO428.out; subst eo5))
    go_ret
    exact ⟨by first | rfl | (simp [errW_none, errW_some] <;> rfl) | (simp [*, errW_none, errW_some] <;> rfl), by repeat (first | (with_reducible first | exact HB.out | apply below_alloc | apply pw_below_drewN | apply below_drew1) | exact HB.out)⟩
  · rw [if_neg c3] at H
    have c3b0 : (t426 == 4) = false := beq_eq_false_iff_ne.mpr c3
    have c3b1 : (t426 != 4) = true := bne_iff_ne.mpr c3
    obtain rfl := Option.some.inj H
    go_enter Tryd.func68, Tryd.ntmps68
    go_wp2_with (first | ((with_reducible refine gate_callee (f := 63) rfl ?_); refine goesL_ (some 7) rfl rfl Tryd.func63 (by kernel_rfl) rfl #[.string a0] rfl (by (try simp only [List.map_toArray, List.map_cons, List.map_nil]); first | done | rfl | (simp only [List.length_drop, List.length_take]; rfl)) ?_; (with_reducible refine (row_Parse.calls k a0 t425 t426 _ A2.out ?sideG).mono ?_); (case sideG => exact GW.keep HG.out (by repeat (first | (with_reducible first | exact HB.out | apply below_alloc | apply pw_below_drewN | apply below_drew1) | exact HB.out))); rintro e w6 ⟨v427, rfl, ho0, hb⟩; refine ⟨_, rfl, ?_⟩; have n0_ := Aside0.mk (Kd.R_lower ho0 (below_size (by repeat (first | (with_reducible first | exact HB.out | apply below_alloc | apply pw_below_drewN | apply below_drew1) | exact HB.out)))); have n1_ := Aside0.mk (below_step (by repeat (first | (with_reducible first | exact HB.out | apply below_alloc | apply pw_below_drewN | apply below_drew1) | exact HB.out)) hb); clear HB; have HO428 := n0_; have HB := n1_; clear n0_ n1_; (try clear hb); (try clear hb2); (try clear hk); (try clear hi); (try clear ho0)))
    go_ret
    exact ⟨by first | rfl | (simp [errW_none, errW_some] <;> rfl) | (simp [*, errW_none, errW_some] <;> rfl), by repeat (first | (with_reducible first | exact HB.out | apply below_alloc | apply pw_below_drewN | apply below_drew1) | exact HB.out)⟩

/-! ### covenantlaw05_works: function 64 -/
def covenantlaw05_works.f (k : Nat)  : Option (Bool) := (covenantlaw05_number.f 1).bind fun bt429 => ((covenantlaw05_text.f (⟨#[97]⟩ : ByteArray)).bind fun bt433 => ((covenantlaw05_says.f k (⟨#[40, 49, 44, 32, 39, 97, 39, 44, 32, 110, 117, 108, 108, 41]⟩ : ByteArray) (([(⟨bt429.1, bt429.2.1, bt429.2.2.1, bt429.2.2.2⟩ : S23), (⟨bt433.1, bt433.2.1, bt433.2.2.1, bt433.2.2.2⟩ : S23), (⟨0, 0, 0, (⟨#[]⟩ : ByteArray)⟩ : S23)] : List (S23)))).bind fun t440 => (if t440 = true then ((covenantlaw05_says.f k (⟨#[40, 41]⟩ : ByteArray) ([] : List (S23))).bind fun t441 => (if t441 = true then ((covenantlaw05_none.f k (⟨#[40, 49, 44, 50, 41]⟩ : ByteArray)).bind fun t442 => (if t442 = true then ((covenantlaw05_none.f k (⟨#[40, 49, 44, 32, 41]⟩ : ByteArray)).bind fun t443 => (if t443 = true then ((covenantlaw05_none.f k (⟨#[49]⟩ : ByteArray)).bind fun t444 => (if t444 = true then ((covenantlaw05_number.f 1).bind fun bt445 => ((covenantlaw05_number.f 1).bind fun bt452 => ((row_Compare.f k (([(⟨bt445.1, bt445.2.1, bt445.2.2.1, bt445.2.2.2⟩ : S23)] : List (S23))) (([(⟨bt452.1, bt452.2.1, bt452.2.2.1, bt452.2.2.2⟩ : S23), (⟨0, 0, 0, (⟨#[]⟩ : ByteArray)⟩ : S23)] : List (S23)))).bind fun t459 => (some (t459 == (-1)))))) else (some false))) else (some false))) else (some false))) else (some false))) else (some false))))
theorem covenantlaw05_works.mono : ∀ k, LeO (covenantlaw05_works.f k ) (covenantlaw05_works.f (k + 1) ) := by
  intro  k
  unfold covenantlaw05_works.f
  repeat' first
      | (with_reducible exact covenantlaw05_none.mono _ _)
      | (with_reducible exact covenantlaw05_says.mono _ _ _)
      | (with_reducible exact row_Compare.mono _ _ _)
      | (with_reducible exact LeO.refl _)
      | (with_reducible exact LeO.none _)
      | (with_reducible refine LeO.ite ?_ ?_)
      | (with_reducible refine LeO.bind ?_ (fun _ => ?_))
      | exact covenantlaw05_none.mono _ _
      | exact covenantlaw05_says.mono _ _ _
      | exact row_Compare.mono _ _ _
      | exact LeO.none _
      | refine LeO.ite ?_ ?_
      | refine LeO.bind ?_ (fun _ => ?_)
set_option maxHeartbeats 8000000 in
set_option maxRecDepth 100000 in
theorem covenantlaw05_works.calls (k : Nat)  (r : Bool) (w : World) (h : covenantlaw05_works.f k  = some r) (hG : GW true w) :
    Calls Tryd.prog 64 #[] w fun e w' => e = .returned (.bool r) ∧ Below w.heap.size w w' := by
  have HG := Aside0.mk hG
  clear hG
  have hu23 := Tryd.underlying23
  have HB := Aside0.mk (Below.refl w.heap.size w)
  have H : ((covenantlaw05_number.f 1).bind fun bt429 => ((covenantlaw05_text.f (⟨#[97]⟩ : ByteArray)).bind fun bt433 => ((covenantlaw05_says.f k (⟨#[40, 49, 44, 32, 39, 97, 39, 44, 32, 110, 117, 108, 108, 41]⟩ : ByteArray) (([(⟨bt429.1, bt429.2.1, bt429.2.2.1, bt429.2.2.2⟩ : S23), (⟨bt433.1, bt433.2.1, bt433.2.2.1, bt433.2.2.2⟩ : S23), (⟨0, 0, 0, (⟨#[]⟩ : ByteArray)⟩ : S23)] : List (S23)))).bind fun t440 => (if t440 = true then ((covenantlaw05_says.f k (⟨#[40, 41]⟩ : ByteArray) ([] : List (S23))).bind fun t441 => (if t441 = true then ((covenantlaw05_none.f k (⟨#[40, 49, 44, 50, 41]⟩ : ByteArray)).bind fun t442 => (if t442 = true then ((covenantlaw05_none.f k (⟨#[40, 49, 44, 32, 41]⟩ : ByteArray)).bind fun t443 => (if t443 = true then ((covenantlaw05_none.f k (⟨#[49]⟩ : ByteArray)).bind fun t444 => (if t444 = true then ((covenantlaw05_number.f 1).bind fun bt445 => ((covenantlaw05_number.f 1).bind fun bt452 => ((row_Compare.f k (([(⟨bt445.1, bt445.2.1, bt445.2.2.1, bt445.2.2.2⟩ : S23)] : List (S23))) (([(⟨bt452.1, bt452.2.1, bt452.2.2.1, bt452.2.2.2⟩ : S23), (⟨0, 0, 0, (⟨#[]⟩ : ByteArray)⟩ : S23)] : List (S23)))).bind fun t459 => (some (t459 == (-1)))))) else (some false))) else (some false))) else (some false))) else (some false))) else (some false))))) = some r := h
  clear h
  replace H := Option.bind_eq_some_iff.mp H
  obtain ⟨⟨t429, t430, t431, t432⟩, A10, H⟩ := H
  replace H : ((covenantlaw05_text.f (⟨#[97]⟩ : ByteArray)).bind fun bt433 => ((covenantlaw05_says.f k (⟨#[40, 49, 44, 32, 39, 97, 39, 44, 32, 110, 117, 108, 108, 41]⟩ : ByteArray) (([(⟨t429, t430, t431, t432⟩ : S23), (⟨bt433.1, bt433.2.1, bt433.2.2.1, bt433.2.2.2⟩ : S23), (⟨0, 0, 0, (⟨#[]⟩ : ByteArray)⟩ : S23)] : List (S23)))).bind fun t440 => (if t440 = true then ((covenantlaw05_says.f k (⟨#[40, 41]⟩ : ByteArray) ([] : List (S23))).bind fun t441 => (if t441 = true then ((covenantlaw05_none.f k (⟨#[40, 49, 44, 50, 41]⟩ : ByteArray)).bind fun t442 => (if t442 = true then ((covenantlaw05_none.f k (⟨#[40, 49, 44, 32, 41]⟩ : ByteArray)).bind fun t443 => (if t443 = true then ((covenantlaw05_none.f k (⟨#[49]⟩ : ByteArray)).bind fun t444 => (if t444 = true then ((covenantlaw05_number.f 1).bind fun bt445 => ((covenantlaw05_number.f 1).bind fun bt452 => ((row_Compare.f k (([(⟨bt445.1, bt445.2.1, bt445.2.2.1, bt445.2.2.2⟩ : S23)] : List (S23))) (([(⟨bt452.1, bt452.2.1, bt452.2.2.1, bt452.2.2.2⟩ : S23), (⟨0, 0, 0, (⟨#[]⟩ : ByteArray)⟩ : S23)] : List (S23)))).bind fun t459 => (some (t459 == (-1)))))) else (some false))) else (some false))) else (some false))) else (some false))) else (some false)))) = some r := H
  have A1 := Aside0.mk A10
  clear A10
  replace H := Option.bind_eq_some_iff.mp H
  obtain ⟨⟨t433, t434, t435, t436⟩, A20, H⟩ := H
  replace H : ((covenantlaw05_says.f k (⟨#[40, 49, 44, 32, 39, 97, 39, 44, 32, 110, 117, 108, 108, 41]⟩ : ByteArray) (([(⟨t429, t430, t431, t432⟩ : S23), (⟨t433, t434, t435, t436⟩ : S23), (⟨0, 0, 0, (⟨#[]⟩ : ByteArray)⟩ : S23)] : List (S23)))).bind fun t440 => (if t440 = true then ((covenantlaw05_says.f k (⟨#[40, 41]⟩ : ByteArray) ([] : List (S23))).bind fun t441 => (if t441 = true then ((covenantlaw05_none.f k (⟨#[40, 49, 44, 50, 41]⟩ : ByteArray)).bind fun t442 => (if t442 = true then ((covenantlaw05_none.f k (⟨#[40, 49, 44, 32, 41]⟩ : ByteArray)).bind fun t443 => (if t443 = true then ((covenantlaw05_none.f k (⟨#[49]⟩ : ByteArray)).bind fun t444 => (if t444 = true then ((covenantlaw05_number.f 1).bind fun bt445 => ((covenantlaw05_number.f 1).bind fun bt452 => ((row_Compare.f k (([(⟨bt445.1, bt445.2.1, bt445.2.2.1, bt445.2.2.2⟩ : S23)] : List (S23))) (([(⟨bt452.1, bt452.2.1, bt452.2.2.1, bt452.2.2.2⟩ : S23), (⟨0, 0, 0, (⟨#[]⟩ : ByteArray)⟩ : S23)] : List (S23)))).bind fun t459 => (some (t459 == (-1)))))) else (some false))) else (some false))) else (some false))) else (some false))) else (some false))) = some r := H
  have A2 := Aside0.mk A20
  clear A20
  obtain ⟨y437, hy437⟩ : ∃ y_ : List (S23), y_ = (([(⟨t429, t430, t431, t432⟩ : S23), (⟨t433, t434, t435, t436⟩ : S23), (⟨0, 0, 0, (⟨#[]⟩ : ByteArray)⟩ : S23)] : List (S23))) := ⟨_, rfl⟩
  replace H : ((covenantlaw05_says.f k (⟨#[40, 49, 44, 32, 39, 97, 39, 44, 32, 110, 117, 108, 108, 41]⟩ : ByteArray) y437).bind fun t440 => (if t440 = true then ((covenantlaw05_says.f k (⟨#[40, 41]⟩ : ByteArray) ([] : List (S23))).bind fun t441 => (if t441 = true then ((covenantlaw05_none.f k (⟨#[40, 49, 44, 50, 41]⟩ : ByteArray)).bind fun t442 => (if t442 = true then ((covenantlaw05_none.f k (⟨#[40, 49, 44, 32, 41]⟩ : ByteArray)).bind fun t443 => (if t443 = true then ((covenantlaw05_none.f k (⟨#[49]⟩ : ByteArray)).bind fun t444 => (if t444 = true then ((covenantlaw05_number.f 1).bind fun bt445 => ((covenantlaw05_number.f 1).bind fun bt452 => ((row_Compare.f k (([(⟨bt445.1, bt445.2.1, bt445.2.2.1, bt445.2.2.2⟩ : S23)] : List (S23))) (([(⟨bt452.1, bt452.2.1, bt452.2.2.1, bt452.2.2.2⟩ : S23), (⟨0, 0, 0, (⟨#[]⟩ : ByteArray)⟩ : S23)] : List (S23)))).bind fun t459 => (some (t459 == (-1)))))) else (some false))) else (some false))) else (some false))) else (some false))) else (some false))) = some r := by first | (rw [hy437]; with_reducible exact H) | (have H2_ := (Option.bind_some _ _).symm.trans H; rw [hy437]; with_reducible exact H2_) | (have H2_ := (Option.bind_some _ _).symm.trans H; with_reducible exact H2_) | with_reducible exact H | (rw [hy437]; exact H) | exact H
  have Ny437 := Aside0.mk hy437
  clear hy437
  replace H := Option.bind_eq_some_iff.mp H
  obtain ⟨t440, A30, H⟩ := H
  replace H : (if t440 = true then ((covenantlaw05_says.f k (⟨#[40, 41]⟩ : ByteArray) ([] : List (S23))).bind fun t441 => (if t441 = true then ((covenantlaw05_none.f k (⟨#[40, 49, 44, 50, 41]⟩ : ByteArray)).bind fun t442 => (if t442 = true then ((covenantlaw05_none.f k (⟨#[40, 49, 44, 32, 41]⟩ : ByteArray)).bind fun t443 => (if t443 = true then ((covenantlaw05_none.f k (⟨#[49]⟩ : ByteArray)).bind fun t444 => (if t444 = true then ((covenantlaw05_number.f 1).bind fun bt445 => ((covenantlaw05_number.f 1).bind fun bt452 => ((row_Compare.f k (([(⟨bt445.1, bt445.2.1, bt445.2.2.1, bt445.2.2.2⟩ : S23)] : List (S23))) (([(⟨bt452.1, bt452.2.1, bt452.2.2.1, bt452.2.2.2⟩ : S23), (⟨0, 0, 0, (⟨#[]⟩ : ByteArray)⟩ : S23)] : List (S23)))).bind fun t459 => (some (t459 == (-1)))))) else (some false))) else (some false))) else (some false))) else (some false))) else (some false)) = some r := H
  have A3 := Aside0.mk A30
  clear A30
  by_cases c4 : t440 = true
  · subst c4
    have H1 : ((covenantlaw05_says.f k (⟨#[40, 41]⟩ : ByteArray) ([] : List (S23))).bind fun t441 => (if t441 = true then ((covenantlaw05_none.f k (⟨#[40, 49, 44, 50, 41]⟩ : ByteArray)).bind fun t442 => (if t442 = true then ((covenantlaw05_none.f k (⟨#[40, 49, 44, 32, 41]⟩ : ByteArray)).bind fun t443 => (if t443 = true then ((covenantlaw05_none.f k (⟨#[49]⟩ : ByteArray)).bind fun t444 => (if t444 = true then ((covenantlaw05_number.f 1).bind fun bt445 => ((covenantlaw05_number.f 1).bind fun bt452 => ((row_Compare.f k (([(⟨bt445.1, bt445.2.1, bt445.2.2.1, bt445.2.2.2⟩ : S23)] : List (S23))) (([(⟨bt452.1, bt452.2.1, bt452.2.2.1, bt452.2.2.2⟩ : S23), (⟨0, 0, 0, (⟨#[]⟩ : ByteArray)⟩ : S23)] : List (S23)))).bind fun t459 => (some (t459 == (-1)))))) else (some false))) else (some false))) else (some false))) else (some false))) = some r := by rw [if_pos rfl] at H; exact H
    clear H
    have H := H1
    clear H1
    replace H := Option.bind_eq_some_iff.mp H
    obtain ⟨t441, A50, H⟩ := H
    replace H : (if t441 = true then ((covenantlaw05_none.f k (⟨#[40, 49, 44, 50, 41]⟩ : ByteArray)).bind fun t442 => (if t442 = true then ((covenantlaw05_none.f k (⟨#[40, 49, 44, 32, 41]⟩ : ByteArray)).bind fun t443 => (if t443 = true then ((covenantlaw05_none.f k (⟨#[49]⟩ : ByteArray)).bind fun t444 => (if t444 = true then ((covenantlaw05_number.f 1).bind fun bt445 => ((covenantlaw05_number.f 1).bind fun bt452 => ((row_Compare.f k (([(⟨bt445.1, bt445.2.1, bt445.2.2.1, bt445.2.2.2⟩ : S23)] : List (S23))) (([(⟨bt452.1, bt452.2.1, bt452.2.2.1, bt452.2.2.2⟩ : S23), (⟨0, 0, 0, (⟨#[]⟩ : ByteArray)⟩ : S23)] : List (S23)))).bind fun t459 => (some (t459 == (-1)))))) else (some false))) else (some false))) else (some false))) else (some false)) = some r := H
    have A5 := Aside0.mk A50
    clear A50
    by_cases c6 : t441 = true
    · subst c6
      have H1 : ((covenantlaw05_none.f k (⟨#[40, 49, 44, 50, 41]⟩ : ByteArray)).bind fun t442 => (if t442 = true then ((covenantlaw05_none.f k (⟨#[40, 49, 44, 32, 41]⟩ : ByteArray)).bind fun t443 => (if t443 = true then ((covenantlaw05_none.f k (⟨#[49]⟩ : ByteArray)).bind fun t444 => (if t444 = true then ((covenantlaw05_number.f 1).bind fun bt445 => ((covenantlaw05_number.f 1).bind fun bt452 => ((row_Compare.f k (([(⟨bt445.1, bt445.2.1, bt445.2.2.1, bt445.2.2.2⟩ : S23)] : List (S23))) (([(⟨bt452.1, bt452.2.1, bt452.2.2.1, bt452.2.2.2⟩ : S23), (⟨0, 0, 0, (⟨#[]⟩ : ByteArray)⟩ : S23)] : List (S23)))).bind fun t459 => (some (t459 == (-1)))))) else (some false))) else (some false))) else (some false))) = some r := by rw [if_pos rfl] at H; exact H
      clear H
      have H := H1
      clear H1
      replace H := Option.bind_eq_some_iff.mp H
      obtain ⟨t442, A70, H⟩ := H
      replace H : (if t442 = true then ((covenantlaw05_none.f k (⟨#[40, 49, 44, 32, 41]⟩ : ByteArray)).bind fun t443 => (if t443 = true then ((covenantlaw05_none.f k (⟨#[49]⟩ : ByteArray)).bind fun t444 => (if t444 = true then ((covenantlaw05_number.f 1).bind fun bt445 => ((covenantlaw05_number.f 1).bind fun bt452 => ((row_Compare.f k (([(⟨bt445.1, bt445.2.1, bt445.2.2.1, bt445.2.2.2⟩ : S23)] : List (S23))) (([(⟨bt452.1, bt452.2.1, bt452.2.2.1, bt452.2.2.2⟩ : S23), (⟨0, 0, 0, (⟨#[]⟩ : ByteArray)⟩ : S23)] : List (S23)))).bind fun t459 => (some (t459 == (-1)))))) else (some false))) else (some false))) else (some false)) = some r := H
      have A7 := Aside0.mk A70
      clear A70
      by_cases c8 : t442 = true
      · subst c8
        have H1 : ((covenantlaw05_none.f k (⟨#[40, 49, 44, 32, 41]⟩ : ByteArray)).bind fun t443 => (if t443 = true then ((covenantlaw05_none.f k (⟨#[49]⟩ : ByteArray)).bind fun t444 => (if t444 = true then ((covenantlaw05_number.f 1).bind fun bt445 => ((covenantlaw05_number.f 1).bind fun bt452 => ((row_Compare.f k (([(⟨bt445.1, bt445.2.1, bt445.2.2.1, bt445.2.2.2⟩ : S23)] : List (S23))) (([(⟨bt452.1, bt452.2.1, bt452.2.2.1, bt452.2.2.2⟩ : S23), (⟨0, 0, 0, (⟨#[]⟩ : ByteArray)⟩ : S23)] : List (S23)))).bind fun t459 => (some (t459 == (-1)))))) else (some false))) else (some false))) = some r := by rw [if_pos rfl] at H; exact H
        clear H
        have H := H1
        clear H1
        replace H := Option.bind_eq_some_iff.mp H
        obtain ⟨t443, A90, H⟩ := H
        replace H : (if t443 = true then ((covenantlaw05_none.f k (⟨#[49]⟩ : ByteArray)).bind fun t444 => (if t444 = true then ((covenantlaw05_number.f 1).bind fun bt445 => ((covenantlaw05_number.f 1).bind fun bt452 => ((row_Compare.f k (([(⟨bt445.1, bt445.2.1, bt445.2.2.1, bt445.2.2.2⟩ : S23)] : List (S23))) (([(⟨bt452.1, bt452.2.1, bt452.2.2.1, bt452.2.2.2⟩ : S23), (⟨0, 0, 0, (⟨#[]⟩ : ByteArray)⟩ : S23)] : List (S23)))).bind fun t459 => (some (t459 == (-1)))))) else (some false))) else (some false)) = some r := H
        have A9 := Aside0.mk A90
        clear A90
        by_cases c10 : t443 = true
        · subst c10
          have H1 : ((covenantlaw05_none.f k (⟨#[49]⟩ : ByteArray)).bind fun t444 => (if t444 = true then ((covenantlaw05_number.f 1).bind fun bt445 => ((covenantlaw05_number.f 1).bind fun bt452 => ((row_Compare.f k (([(⟨bt445.1, bt445.2.1, bt445.2.2.1, bt445.2.2.2⟩ : S23)] : List (S23))) (([(⟨bt452.1, bt452.2.1, bt452.2.2.1, bt452.2.2.2⟩ : S23), (⟨0, 0, 0, (⟨#[]⟩ : ByteArray)⟩ : S23)] : List (S23)))).bind fun t459 => (some (t459 == (-1)))))) else (some false))) = some r := by rw [if_pos rfl] at H; exact H
          clear H
          have H := H1
          clear H1
          replace H := Option.bind_eq_some_iff.mp H
          obtain ⟨t444, A110, H⟩ := H
          replace H : (if t444 = true then ((covenantlaw05_number.f 1).bind fun bt445 => ((covenantlaw05_number.f 1).bind fun bt452 => ((row_Compare.f k (([(⟨bt445.1, bt445.2.1, bt445.2.2.1, bt445.2.2.2⟩ : S23)] : List (S23))) (([(⟨bt452.1, bt452.2.1, bt452.2.2.1, bt452.2.2.2⟩ : S23), (⟨0, 0, 0, (⟨#[]⟩ : ByteArray)⟩ : S23)] : List (S23)))).bind fun t459 => (some (t459 == (-1)))))) else (some false)) = some r := H
          have A11 := Aside0.mk A110
          clear A110
          by_cases c12 : t444 = true
          · subst c12
            have H1 : ((covenantlaw05_number.f 1).bind fun bt445 => ((covenantlaw05_number.f 1).bind fun bt452 => ((row_Compare.f k (([(⟨bt445.1, bt445.2.1, bt445.2.2.1, bt445.2.2.2⟩ : S23)] : List (S23))) (([(⟨bt452.1, bt452.2.1, bt452.2.2.1, bt452.2.2.2⟩ : S23), (⟨0, 0, 0, (⟨#[]⟩ : ByteArray)⟩ : S23)] : List (S23)))).bind fun t459 => (some (t459 == (-1)))))) = some r := by rw [if_pos rfl] at H; exact H
            clear H
            have H := H1
            clear H1
            replace H := Option.bind_eq_some_iff.mp H
            obtain ⟨⟨t445, t446, t447, t448⟩, A130, H⟩ := H
            replace H : ((covenantlaw05_number.f 1).bind fun bt452 => ((row_Compare.f k (([(⟨t445, t446, t447, t448⟩ : S23)] : List (S23))) (([(⟨bt452.1, bt452.2.1, bt452.2.2.1, bt452.2.2.2⟩ : S23), (⟨0, 0, 0, (⟨#[]⟩ : ByteArray)⟩ : S23)] : List (S23)))).bind fun t459 => (some (t459 == (-1))))) = some r := H
            have A13 := Aside0.mk A130
            clear A130
            obtain ⟨y449, hy449⟩ : ∃ y_ : List (S23), y_ = (([(⟨t445, t446, t447, t448⟩ : S23)] : List (S23))) := ⟨_, rfl⟩
            replace H : ((covenantlaw05_number.f 1).bind fun bt452 => ((row_Compare.f k y449 (([(⟨bt452.1, bt452.2.1, bt452.2.2.1, bt452.2.2.2⟩ : S23), (⟨0, 0, 0, (⟨#[]⟩ : ByteArray)⟩ : S23)] : List (S23)))).bind fun t459 => (some (t459 == (-1))))) = some r := by first | (rw [hy449]; with_reducible exact H) | (have H2_ := (Option.bind_some _ _).symm.trans H; rw [hy449]; with_reducible exact H2_) | (have H2_ := (Option.bind_some _ _).symm.trans H; with_reducible exact H2_) | with_reducible exact H | (rw [hy449]; exact H) | exact H
            have Ny449 := Aside0.mk hy449
            clear hy449
            replace H := Option.bind_eq_some_iff.mp H
            obtain ⟨⟨t452, t453, t454, t455⟩, A140, H⟩ := H
            replace H : ((row_Compare.f k y449 (([(⟨t452, t453, t454, t455⟩ : S23), (⟨0, 0, 0, (⟨#[]⟩ : ByteArray)⟩ : S23)] : List (S23)))).bind fun t459 => (some (t459 == (-1)))) = some r := H
            have A14 := Aside0.mk A140
            clear A140
            obtain ⟨y456, hy456⟩ : ∃ y_ : List (S23), y_ = (([(⟨t452, t453, t454, t455⟩ : S23), (⟨0, 0, 0, (⟨#[]⟩ : ByteArray)⟩ : S23)] : List (S23))) := ⟨_, rfl⟩
            replace H : ((row_Compare.f k y449 y456).bind fun t459 => (some (t459 == (-1)))) = some r := by first | (rw [hy456]; with_reducible exact H) | (have H2_ := (Option.bind_some _ _).symm.trans H; rw [hy456]; with_reducible exact H2_) | (have H2_ := (Option.bind_some _ _).symm.trans H; with_reducible exact H2_) | with_reducible exact H | (rw [hy456]; exact H) | exact H
            have Ny456 := Aside0.mk hy456
            clear hy456
            replace H := Option.bind_eq_some_iff.mp H
            obtain ⟨t459, A150, H⟩ := H
            replace H : (some (t459 == (-1))) = some r := H
            have A15 := Aside0.mk A150
            clear A150
            obtain rfl := Option.some.inj H
            go_enter Tryd.func64, Tryd.ntmps64
            go_wp2_with (first | ((with_reducible refine gate_callee (f := 67) rfl ?_); refine goesL_ (some 1) rfl rfl Tryd.func67 (by kernel_rfl) rfl #[.int .i64 1] rfl (by (try simp only [List.map_toArray, List.map_cons, List.map_nil]); first | done | rfl | (simp only [List.length_drop, List.length_take]; rfl)) ?_; (with_reducible refine (covenantlaw05_number.calls 1 t429 t430 t431 t432 _ A1.out).mono ?_); rintro e w16 ⟨rfl, hb⟩; refine ⟨_, rfl, ?_⟩; have n0_ := Aside0.mk (below_step (by repeat (first | (with_reducible first | exact HB.out | apply below_alloc | apply pw_below_drewN | apply below_drew1) | exact HB.out)) hb); clear HB; have HB := n0_; clear n0_; (try clear hb); (try clear hb2); (try clear hk); (try clear hi)) | ((with_reducible refine gate_callee (f := 66) rfl ?_); refine goesL_ (some 2) rfl rfl Tryd.func66 (by kernel_rfl) rfl #[.string (⟨#[97]⟩ : ByteArray)] rfl (by (try simp only [List.map_toArray, List.map_cons, List.map_nil]); first | done | rfl | (simp only [List.length_drop, List.length_take]; rfl)) ?_; (with_reducible refine (covenantlaw05_text.calls (⟨#[97]⟩ : ByteArray) t433 t434 t435 t436 _ A2.out).mono ?_); rintro e w17 ⟨rfl, hb⟩; refine ⟨_, rfl, ?_⟩; have n0_ := Aside0.mk (below_step (by repeat (first | (with_reducible first | exact HB.out | apply below_alloc | apply pw_below_drewN | apply below_drew1) | exact HB.out)) hb); clear HB; have HB := n0_; clear n0_; (try clear hb); (try clear hb2); (try clear hk); (try clear hi)) | ((with_reducible refine gate_dst (N := 4) rfl ?_); (try (refine gate_guard (by rfl) ?_; dsimp only)); refine Kd.R_lit k23 _ 23 ?hg (N := 4) ?hd (xs := ([(⟨t429, t430, t431, t432⟩ : S23), (⟨t433, t434, t435, t436⟩ : S23), (⟨0, 0, 0, (⟨#[]⟩ : ByteArray)⟩ : S23)] : List (S23))) (inner := [.int .u8 t429, .int .i64 t430, .int .i64 t431, .string t432, .int .u8 t433, .int .i64 t434, .int .i64 t435, .string t436, .int .u8 0, .int .i64 0, .int .i64 0, .string (⟨#[]⟩ : ByteArray)]) (ok := fun _ => True) (okp := fun _ => True) ?hr ?hp (fun _ hk => hk) trivial (Below.refl _ _) (Nat.le_refl _) (by simp) ?_; (case hd => rfl); (case hg => rfl); (case hr => first | (go_simp; done) | (go_simp; rfl)); (case hp => exact (Reps.c4 (show Kd.M k23 _ _ _ (⟨t429, t430, t431, t432⟩ : S23) [.int .u8 t429, .int .i64 t430, .int .i64 t431, .string t432] from (k23_mkM _ _ _ (⟨t429, t430, t431, t432⟩ : S23) )) (Reps.c4 (show Kd.M k23 _ _ _ (⟨t433, t434, t435, t436⟩ : S23) [.int .u8 t433, .int .i64 t434, .int .i64 t435, .string t436] from (k23_mkM _ _ _ (⟨t433, t434, t435, t436⟩ : S23) )) (Reps.c4 (show Kd.M k23 _ _ _ (⟨0, 0, 0, (⟨#[]⟩ : ByteArray)⟩ : S23) [.int .u8 0, .int .i64 0, .int .i64 0, .string (⟨#[]⟩ : ByteArray)] from (k23_mkM _ _ _ (⟨0, 0, 0, (⟨#[]⟩ : ByteArray)⟩ : S23) )) (Reps.none _ _))))); intro v438 w18 ho19 hb hg_ hnew_; clear hg_ hnew_; (first | rw [← Ny437.out] at ho19 | (simp only [Int.reduceToNat] at ho19; rw [← Ny437.out] at ho19)); have n0_ := Aside0.mk (Kd.R_lower ho19 (below_size (by repeat (first | (with_reducible first | exact HB.out | apply below_alloc | apply pw_below_drewN | apply below_drew1) | exact HB.out)))); have n1_ := Aside0.mk (below_step (by repeat (first | (with_reducible first | exact HB.out | apply below_alloc | apply pw_below_drewN | apply below_drew1) | exact HB.out)) hb); clear HB; have HO439 := n0_; have HB := n1_; clear n0_ n1_; clear hb ho19; obtain ⟨Ao20, co20, eo20⟩ := Kd.R_slice HO439.out; subst eo20) | ((with_reducible refine gate_callee (f := 65) rfl ?_); refine goesL_ (some 5) rfl rfl Tryd.func65 (by kernel_rfl) rfl #[.string (⟨#[40, 49, 44, 32, 39, 97, 39, 44, 32, 110, 117, 108, 108, 41]⟩ : ByteArray), .slice Ao20 y437.length co20] rfl (by (try simp only [List.map_toArray, List.map_cons, List.map_nil]); first | done | rfl | (simp only [List.length_drop, List.length_take]; rfl)) ?_; (with_reducible refine (covenantlaw05_says.calls k (⟨#[40, 49, 44, 32, 39, 97, 39, 44, 32, 110, 117, 108, 108, 41]⟩ : ByteArray) _ _ y437 true _ ?side1 ?side2 A3.out ?sideG).mono ?_); (case sideG => exact GW.keep HG.out (by repeat (first | (with_reducible first | exact HB.out | apply below_alloc | apply pw_below_drewN | apply below_drew1) | exact HB.out))); (case side1 => repeat (first | exact (Kd.R_reads' HO439.out).2.2 | (with_reducible refine Kd.C_alloc ?_ _) | (with_reducible refine Kd.C_drewN ?_ _) | (with_reducible refine Kd.C_drew ?_))); (case side2 => exact (Kd.R_reads' HO439.out).2.1); rintro e w21 ⟨rfl, hb⟩; refine ⟨_, rfl, ?_⟩; have n0_ := Aside0.mk (Kd.R_below (by (with_reducible repeat (first | apply Kd.R_alloc | apply Kd.R_drewN | apply Kd.R_drew)); exact HO439.out) hb); have n1_ := Aside0.mk (below_step (by repeat (first | (with_reducible first | exact HB.out | apply below_alloc | apply pw_below_drewN | apply below_drew1) | exact HB.out)) hb); clear HO439; clear HB; have HO439 := n0_; have HB := n1_; clear n0_ n1_; (try clear hb); (try clear hb2); (try clear hk); (try clear hi)) | (go_at_call 65; (refine (covenantlaw05_says.calls k (⟨#[40, 41]⟩ : ByteArray) _ _ ([] : List (S23)) true _ ?side1 ?side2 A5.out ?sideG).mono ?_); (case sideG => exact GW.keep HG.out (by repeat (first | (with_reducible first | exact HB.out | apply below_alloc | apply pw_below_drewN | apply below_drew1) | exact HB.out))); (case side1 => exact Kd.C_nil _ _); (case side2 => exact Nat.le_refl _); rintro e w22 ⟨rfl, hb⟩; have n0_ := Aside0.mk (Kd.R_below (by (with_reducible repeat (first | apply Kd.R_alloc | apply Kd.R_drewN | apply Kd.R_drew)); exact HO439.out) hb); have n1_ := Aside0.mk (below_step (by repeat (first | (with_reducible first | exact HB.out | apply below_alloc | apply pw_below_drewN | apply below_drew1) | exact HB.out)) hb); clear HO439; clear HB; have HO439 := n0_; have HB := n1_; clear n0_ n1_; (try clear hb); (try clear hb2); (try clear hk); (try clear hi)) | (go_at_call 68; (with_reducible refine (covenantlaw05_none.calls k (⟨#[40, 49, 44, 50, 41]⟩ : ByteArray) true _ A7.out ?sideG).mono ?_); (case sideG => exact GW.keep HG.out (by repeat (first | (with_reducible first | exact HB.out | apply below_alloc | apply pw_below_drewN | apply below_drew1) | exact HB.out))); rintro e w23 ⟨rfl, hb⟩; have n0_ := Aside0.mk (Kd.R_below (by (with_reducible repeat (first | apply Kd.R_alloc | apply Kd.R_drewN | apply Kd.R_drew)); exact HO439.out) hb); have n1_ := Aside0.mk (below_step (by repeat (first | (with_reducible first | exact HB.out | apply below_alloc | apply pw_below_drewN | apply below_drew1) | exact HB.out)) hb); clear HO439; clear HB; have HO439 := n0_; have HB := n1_; clear n0_ n1_; (try clear hb); (try clear hb2); (try clear hk); (try clear hi)) | (go_at_call 68; (with_reducible refine (covenantlaw05_none.calls k (⟨#[40, 49, 44, 32, 41]⟩ : ByteArray) true _ A9.out ?sideG).mono ?_); (case sideG => exact GW.keep HG.out (by repeat (first | (with_reducible first | exact HB.out | apply below_alloc | apply pw_below_drewN | apply below_drew1) | exact HB.out))); rintro e w24 ⟨rfl, hb⟩; have n0_ := Aside0.mk (Kd.R_below (by (with_reducible repeat (first | apply Kd.R_alloc | apply Kd.R_drewN | apply Kd.R_drew)); exact HO439.out) hb); have n1_ := Aside0.mk (below_step (by repeat (first | (with_reducible first | exact HB.out | apply below_alloc | apply pw_below_drewN | apply below_drew1) | exact HB.out)) hb); clear HO439; clear HB; have HO439 := n0_; have HB := n1_; clear n0_ n1_; (try clear hb); (try clear hb2); (try clear hk); (try clear hi)) | (go_at_call 68; (with_reducible refine (covenantlaw05_none.calls k (⟨#[49]⟩ : ByteArray) true _ A11.out ?sideG).mono ?_); (case sideG => exact GW.keep HG.out (by repeat (first | (with_reducible first | exact HB.out | apply below_alloc | apply pw_below_drewN | apply below_drew1) | exact HB.out))); rintro e w25 ⟨rfl, hb⟩; have n0_ := Aside0.mk (Kd.R_below (by (with_reducible repeat (first | apply Kd.R_alloc | apply Kd.R_drewN | apply Kd.R_drew)); exact HO439.out) hb); have n1_ := Aside0.mk (below_step (by repeat (first | (with_reducible first | exact HB.out | apply below_alloc | apply pw_below_drewN | apply below_drew1) | exact HB.out)) hb); clear HO439; clear HB; have HO439 := n0_; have HB := n1_; clear n0_ n1_; (try clear hb); (try clear hb2); (try clear hk); (try clear hi)) | (go_at_call 67; (with_reducible refine (covenantlaw05_number.calls 1 t452 t453 t454 t455 _ A14.out).mono ?_); rintro e w29 ⟨rfl, hb⟩; have n0_ := Aside0.mk (Kd.R_below (by (with_reducible repeat (first | apply Kd.R_alloc | apply Kd.R_drewN | apply Kd.R_drew)); exact HO439.out) hb); have n1_ := Aside0.mk (Kd.R_below (by (with_reducible repeat (first | apply Kd.R_alloc | apply Kd.R_drewN | apply Kd.R_drew)); exact HO451.out) hb); have n2_ := Aside0.mk (below_step (by repeat (first | (with_reducible first | exact HB.out | apply below_alloc | apply pw_below_drewN | apply below_drew1) | exact HB.out)) hb); clear HO439; clear HO451; clear HB; have HO439 := n0_; have HO451 := n1_; have HB := n2_; clear n0_ n1_ n2_; (try clear hb); (try clear hb2); (try clear hk); (try clear hi)) | ((with_reducible refine gate_dst (N := 20) rfl ?_); (try (refine gate_guard (by rfl) ?_; dsimp only)); refine Kd.R_lit k23 _ 23 ?hg (N := 20) ?hd (xs := ([(⟨t445, t446, t447, t448⟩ : S23)] : List (S23))) (inner := [.int .u8 t445, .int .i64 t446, .int .i64 t447, .string t448]) (ok := fun _ => True) (okp := fun _ => True) ?hr ?hp (fun _ hk => hk) trivial (Below.refl _ _) (Nat.le_refl _) (by simp) ?_; (case hd => rfl); (case hg => rfl); (case hr => first | (go_simp; done) | (go_simp; rfl)); (case hp => exact (Reps.c4 (show Kd.M k23 _ _ _ (⟨t445, t446, t447, t448⟩ : S23) [.int .u8 t445, .int .i64 t446, .int .i64 t447, .string t448] from (k23_mkM _ _ _ (⟨t445, t446, t447, t448⟩ : S23) )) (Reps.none _ _))); intro v450 w27 ho28 hb hg_ hnew_; clear hg_ hnew_; (first | rw [← Ny449.out] at ho28 | (simp only [Int.reduceToNat] at ho28; rw [← Ny449.out] at ho28)); have n0_ := Aside0.mk (Kd.R_elder' (by (with_reducible repeat (first | apply Kd.R_alloc | apply Kd.R_drewN | apply Kd.R_drew)); exact HO439.out) (Kd.R_base ho28) hb); have n1_ := Aside0.mk (Kd.R_lower (Kd.R_new' ho28 (Kd.R_lt (by (with_reducible repeat (first | apply Kd.R_alloc | apply Kd.R_drewN | apply Kd.R_drew)); exact HO439.out))) (below_size (by repeat (first | (with_reducible first | exact HB.out | apply below_alloc | apply pw_below_drewN | apply below_drew1) | exact HB.out)))); have n2_ := Aside0.mk (below_step (by repeat (first | (with_reducible first | exact HB.out | apply below_alloc | apply pw_below_drewN | apply below_drew1) | exact HB.out)) hb); clear HO439; clear HB; have HO439 := n0_; have HO451 := n1_; have HB := n2_; clear n0_ n1_ n2_; clear hb ho28) | (go_at_call 67; (with_reducible refine (covenantlaw05_number.calls 1 t445 t446 t447 t448 _ A13.out).mono ?_); rintro e w26 ⟨rfl, hb⟩; have n0_ := Aside0.mk (Kd.R_below (by (with_reducible repeat (first | apply Kd.R_alloc | apply Kd.R_drewN | apply Kd.R_drew)); exact HO439.out) hb); have n1_ := Aside0.mk (below_step (by repeat (first | (with_reducible first | exact HB.out | apply below_alloc | apply pw_below_drewN | apply below_drew1) | exact HB.out)) hb); clear HO439; clear HB; have HO439 := n0_; have HB := n1_; clear n0_ n1_; (try clear hb); (try clear hb2); (try clear hk); (try clear hi)) | ((with_reducible refine gate_dst (N := 23) rfl ?_); (try (refine gate_guard (by rfl) ?_; dsimp only)); refine Kd.R_lit k23 _ 23 ?hg (N := 23) ?hd (xs := ([(⟨t452, t453, t454, t455⟩ : S23), (⟨0, 0, 0, (⟨#[]⟩ : ByteArray)⟩ : S23)] : List (S23))) (inner := [.int .u8 t452, .int .i64 t453, .int .i64 t454, .string t455, .int .u8 0, .int .i64 0, .int .i64 0, .string (⟨#[]⟩ : ByteArray)]) (ok := fun _ => True) (okp := fun _ => True) ?hr ?hp (fun _ hk => hk) trivial (Below.refl _ _) (Nat.le_refl _) (by simp) ?_; (case hd => rfl); (case hg => rfl); (case hr => first | (go_simp; done) | (go_simp; rfl)); (case hp => exact (Reps.c4 (show Kd.M k23 _ _ _ (⟨t452, t453, t454, t455⟩ : S23) [.int .u8 t452, .int .i64 t453, .int .i64 t454, .string t455] from (k23_mkM _ _ _ (⟨t452, t453, t454, t455⟩ : S23) )) (Reps.c4 (show Kd.M k23 _ _ _ (⟨0, 0, 0, (⟨#[]⟩ : ByteArray)⟩ : S23) [.int .u8 0, .int .i64 0, .int .i64 0, .string (⟨#[]⟩ : ByteArray)] from (k23_mkM _ _ _ (⟨0, 0, 0, (⟨#[]⟩ : ByteArray)⟩ : S23) )) (Reps.none _ _)))); intro v457 w30 ho31 hb hg_ hnew_; clear hg_ hnew_; (first | rw [← Ny456.out] at ho31 | (simp only [Int.reduceToNat] at ho31; rw [← Ny456.out] at ho31)); have n0_ := Aside0.mk (Kd.R_elder' (by (with_reducible repeat (first | apply Kd.R_alloc | apply Kd.R_drewN | apply Kd.R_drew)); exact HO439.out) (Kd.R_base ho31) hb); have n1_ := Aside0.mk (Kd.R_elder' (by (with_reducible repeat (first | apply Kd.R_alloc | apply Kd.R_drewN | apply Kd.R_drew)); exact HO451.out) (Kd.R_base ho31) hb); have n2_ := Aside0.mk (Kd.R_lower (Kd.R_new' (Kd.R_new' ho31 (Kd.R_lt (by (with_reducible repeat (first | apply Kd.R_alloc | apply Kd.R_drewN | apply Kd.R_drew)); exact HO439.out))) (Kd.R_lt (by (with_reducible repeat (first | apply Kd.R_alloc | apply Kd.R_drewN | apply Kd.R_drew)); exact HO451.out))) (below_size (by repeat (first | (with_reducible first | exact HB.out | apply below_alloc | apply pw_below_drewN | apply below_drew1) | exact HB.out)))); have n3_ := Aside0.mk (below_step (by repeat (first | (with_reducible first | exact HB.out | apply below_alloc | apply pw_below_drewN | apply below_drew1) | exact HB.out)) hb); clear HO439; clear HO451; clear HB; have HO439 := n0_; have HO451 := n1_; have HO458 := n2_; have HB := n3_; clear n0_ n1_ n2_ n3_; clear hb ho31; obtain ⟨Ao32, co32, eo32⟩ := Kd.R_slice HO451.out; subst eo32; obtain ⟨Ao33, co33, eo33⟩ := Kd.R_slice HO458.out; subst eo33) | (go_at_call 36; (with_reducible refine (row_Compare.calls k _ _ y449 _ _ y456 t459 _ ?side1 ?side2 ?side3 ?side4 A15.out).mono ?_); (case side1 => repeat (first | exact (Kd.R_reads' HO451.out).2.2 | (with_reducible refine Kd.C_alloc ?_ _) | (with_reducible refine Kd.C_drewN ?_ _) | (with_reducible refine Kd.C_drew ?_))); (case side2 => exact (Kd.R_reads' HO451.out).2.1); (case side3 => repeat (first | exact (Kd.R_reads' HO458.out).2.2 | (with_reducible refine Kd.C_alloc ?_ _) | (with_reducible refine Kd.C_drewN ?_ _) | (with_reducible refine Kd.C_drew ?_))); (case side4 => exact (Kd.R_reads' HO458.out).2.1); rintro e w34 ⟨rfl, hb⟩; have n0_ := Aside0.mk (Kd.R_below (by (with_reducible repeat (first | apply Kd.R_alloc | apply Kd.R_drewN | apply Kd.R_drew)); exact HO439.out) hb); have n1_ := Aside0.mk (Kd.R_below (by (with_reducible repeat (first | apply Kd.R_alloc | apply Kd.R_drewN | apply Kd.R_drew)); exact HO451.out) hb); have n2_ := Aside0.mk (Kd.R_below (by (with_reducible repeat (first | apply Kd.R_alloc | apply Kd.R_drewN | apply Kd.R_drew)); exact HO458.out) hb); have n3_ := Aside0.mk (below_step (by repeat (first | (with_reducible first | exact HB.out | apply below_alloc | apply pw_below_drewN | apply below_drew1) | exact HB.out)) hb); clear HO439; clear HO451; clear HO458; clear HB; have HO439 := n0_; have HO451 := n1_; have HO458 := n2_; have HB := n3_; clear n0_ n1_ n2_ n3_; (try clear hb); (try clear hb2); (try clear hk); (try clear hi)))
            go_ret
            exact ⟨by first | rfl | (simp [errW_none, errW_some] <;> rfl) | (simp [*, errW_none, errW_some] <;> rfl), by repeat (first | (with_reducible first | exact HB.out | apply below_alloc | apply pw_below_drewN | apply below_drew1) | exact HB.out)⟩
          · replace c12 := Bool.eq_false_iff.mpr c12
            subst c12
            have H1 : (some false) = some r := by rw [if_neg (show ¬ (false = true) by decide)] at H; exact H
            clear H
            have H := H1
            clear H1
            obtain rfl := Option.some.inj H
            go_enter Tryd.func64, Tryd.ntmps64
            go_wp2_with (first | ((with_reducible refine gate_callee (f := 67) rfl ?_); refine goesL_ (some 1) rfl rfl Tryd.func67 (by kernel_rfl) rfl #[.int .i64 1] rfl (by (try simp only [List.map_toArray, List.map_cons, List.map_nil]); first | done | rfl | (simp only [List.length_drop, List.length_take]; rfl)) ?_; (with_reducible refine (covenantlaw05_number.calls 1 t429 t430 t431 t432 _ A1.out).mono ?_); rintro e w35 ⟨rfl, hb⟩; refine ⟨_, rfl, ?_⟩; have n0_ := Aside0.mk (below_step (by repeat (first | (with_reducible first | exact HB.out | apply below_alloc | apply pw_below_drewN | apply below_drew1) | exact HB.out)) hb); clear HB; have HB := n0_; clear n0_; (try clear hb); (try clear hb2); (try clear hk); (try clear hi)) | ((with_reducible refine gate_callee (f := 66) rfl ?_); refine goesL_ (some 2) rfl rfl Tryd.func66 (by kernel_rfl) rfl #[.string (⟨#[97]⟩ : ByteArray)] rfl (by (try simp only [List.map_toArray, List.map_cons, List.map_nil]); first | done | rfl | (simp only [List.length_drop, List.length_take]; rfl)) ?_; (with_reducible refine (covenantlaw05_text.calls (⟨#[97]⟩ : ByteArray) t433 t434 t435 t436 _ A2.out).mono ?_); rintro e w36 ⟨rfl, hb⟩; refine ⟨_, rfl, ?_⟩; have n0_ := Aside0.mk (below_step (by repeat (first | (with_reducible first | exact HB.out | apply below_alloc | apply pw_below_drewN | apply below_drew1) | exact HB.out)) hb); clear HB; have HB := n0_; clear n0_; (try clear hb); (try clear hb2); (try clear hk); (try clear hi)) | ((with_reducible refine gate_dst (N := 4) rfl ?_); (try (refine gate_guard (by rfl) ?_; dsimp only)); refine Kd.R_lit k23 _ 23 ?hg (N := 4) ?hd (xs := ([(⟨t429, t430, t431, t432⟩ : S23), (⟨t433, t434, t435, t436⟩ : S23), (⟨0, 0, 0, (⟨#[]⟩ : ByteArray)⟩ : S23)] : List (S23))) (inner := [.int .u8 t429, .int .i64 t430, .int .i64 t431, .string t432, .int .u8 t433, .int .i64 t434, .int .i64 t435, .string t436, .int .u8 0, .int .i64 0, .int .i64 0, .string (⟨#[]⟩ : ByteArray)]) (ok := fun _ => True) (okp := fun _ => True) ?hr ?hp (fun _ hk => hk) trivial (Below.refl _ _) (Nat.le_refl _) (by simp) ?_; (case hd => rfl); (case hg => rfl); (case hr => first | (go_simp; done) | (go_simp; rfl)); (case hp => exact (Reps.c4 (show Kd.M k23 _ _ _ (⟨t429, t430, t431, t432⟩ : S23) [.int .u8 t429, .int .i64 t430, .int .i64 t431, .string t432] from (k23_mkM _ _ _ (⟨t429, t430, t431, t432⟩ : S23) )) (Reps.c4 (show Kd.M k23 _ _ _ (⟨t433, t434, t435, t436⟩ : S23) [.int .u8 t433, .int .i64 t434, .int .i64 t435, .string t436] from (k23_mkM _ _ _ (⟨t433, t434, t435, t436⟩ : S23) )) (Reps.c4 (show Kd.M k23 _ _ _ (⟨0, 0, 0, (⟨#[]⟩ : ByteArray)⟩ : S23) [.int .u8 0, .int .i64 0, .int .i64 0, .string (⟨#[]⟩ : ByteArray)] from (k23_mkM _ _ _ (⟨0, 0, 0, (⟨#[]⟩ : ByteArray)⟩ : S23) )) (Reps.none _ _))))); intro v438 w37 ho38 hb hg_ hnew_; clear hg_ hnew_; (first | rw [← Ny437.out] at ho38 | (simp only [Int.reduceToNat] at ho38; rw [← Ny437.out] at ho38)); have n0_ := Aside0.mk (Kd.R_lower ho38 (below_size (by repeat (first | (with_reducible first | exact HB.out | apply below_alloc | apply pw_below_drewN | apply below_drew1) | exact HB.out)))); have n1_ := Aside0.mk (below_step (by repeat (first | (with_reducible first | exact HB.out | apply below_alloc | apply pw_below_drewN | apply below_drew1) | exact HB.out)) hb); clear HB; have HO439 := n0_; have HB := n1_; clear n0_ n1_; clear hb ho38; obtain ⟨Ao39, co39, eo39⟩ := Kd.R_slice HO439.out; subst eo39) | ((with_reducible refine gate_callee (f := 65) rfl ?_); refine goesL_ (some 5) rfl rfl Tryd.func65 (by kernel_rfl) rfl #[.string (⟨#[40, 49, 44, 32, 39, 97, 39, 44, 32, 110, 117, 108, 108, 41]⟩ : ByteArray), .slice Ao39 y437.length co39] rfl (by (try simp only [List.map_toArray, List.map_cons, List.map_nil]); first | done | rfl | (simp only [List.length_drop, List.length_take]; rfl)) ?_; (with_reducible refine (covenantlaw05_says.calls k (⟨#[40, 49, 44, 32, 39, 97, 39, 44, 32, 110, 117, 108, 108, 41]⟩ : ByteArray) _ _ y437 true _ ?side1 ?side2 A3.out ?sideG).mono ?_); (case sideG => exact GW.keep HG.out (by repeat (first | (with_reducible first | exact HB.out | apply below_alloc | apply pw_below_drewN | apply below_drew1) | exact HB.out))); (case side1 => repeat (first | exact (Kd.R_reads' HO439.out).2.2 | (with_reducible refine Kd.C_alloc ?_ _) | (with_reducible refine Kd.C_drewN ?_ _) | (with_reducible refine Kd.C_drew ?_))); (case side2 => exact (Kd.R_reads' HO439.out).2.1); rintro e w40 ⟨rfl, hb⟩; refine ⟨_, rfl, ?_⟩; have n0_ := Aside0.mk (Kd.R_below (by (with_reducible repeat (first | apply Kd.R_alloc | apply Kd.R_drewN | apply Kd.R_drew)); exact HO439.out) hb); have n1_ := Aside0.mk (below_step (by repeat (first | (with_reducible first | exact HB.out | apply below_alloc | apply pw_below_drewN | apply below_drew1) | exact HB.out)) hb); clear HO439; clear HB; have HO439 := n0_; have HB := n1_; clear n0_ n1_; (try clear hb); (try clear hb2); (try clear hk); (try clear hi)) | (go_at_call 65; (refine (covenantlaw05_says.calls k (⟨#[40, 41]⟩ : ByteArray) _ _ ([] : List (S23)) true _ ?side1 ?side2 A5.out ?sideG).mono ?_); (case sideG => exact GW.keep HG.out (by repeat (first | (with_reducible first | exact HB.out | apply below_alloc | apply pw_below_drewN | apply below_drew1) | exact HB.out))); (case side1 => exact Kd.C_nil _ _); (case side2 => exact Nat.le_refl _); rintro e w41 ⟨rfl, hb⟩; have n0_ := Aside0.mk (Kd.R_below (by (with_reducible repeat (first | apply Kd.R_alloc | apply Kd.R_drewN | apply Kd.R_drew)); exact HO439.out) hb); have n1_ := Aside0.mk (below_step (by repeat (first | (with_reducible first | exact HB.out | apply below_alloc | apply pw_below_drewN | apply below_drew1) | exact HB.out)) hb); clear HO439; clear HB; have HO439 := n0_; have HB := n1_; clear n0_ n1_; (try clear hb); (try clear hb2); (try clear hk); (try clear hi)) | (go_at_call 68; (with_reducible refine (covenantlaw05_none.calls k (⟨#[40, 49, 44, 50, 41]⟩ : ByteArray) true _ A7.out ?sideG).mono ?_); (case sideG => exact GW.keep HG.out (by repeat (first | (with_reducible first | exact HB.out | apply below_alloc | apply pw_below_drewN | apply below_drew1) | exact HB.out))); rintro e w42 ⟨rfl, hb⟩; have n0_ := Aside0.mk (Kd.R_below (by (with_reducible repeat (first | apply Kd.R_alloc | apply Kd.R_drewN | apply Kd.R_drew)); exact HO439.out) hb); have n1_ := Aside0.mk (below_step (by repeat (first | (with_reducible first | exact HB.out | apply below_alloc | apply pw_below_drewN | apply below_drew1) | exact HB.out)) hb); clear HO439; clear HB; have HO439 := n0_; have HB := n1_; clear n0_ n1_; (try clear hb); (try clear hb2); (try clear hk); (try clear hi)) | (go_at_call 68; (with_reducible refine (covenantlaw05_none.calls k (⟨#[40, 49, 44, 32, 41]⟩ : ByteArray) true _ A9.out ?sideG).mono ?_); (case sideG => exact GW.keep HG.out (by repeat (first | (with_reducible first | exact HB.out | apply below_alloc | apply pw_below_drewN | apply below_drew1) | exact HB.out))); rintro e w43 ⟨rfl, hb⟩; have n0_ := Aside0.mk (Kd.R_below (by (with_reducible repeat (first | apply Kd.R_alloc | apply Kd.R_drewN | apply Kd.R_drew)); exact HO439.out) hb); have n1_ := Aside0.mk (below_step (by repeat (first | (with_reducible first | exact HB.out | apply below_alloc | apply pw_below_drewN | apply below_drew1) | exact HB.out)) hb); clear HO439; clear HB; have HO439 := n0_; have HB := n1_; clear n0_ n1_; (try clear hb); (try clear hb2); (try clear hk); (try clear hi)) | (go_at_call 68; (with_reducible refine (covenantlaw05_none.calls k (⟨#[49]⟩ : ByteArray) false _ A11.out ?sideG).mono ?_); (case sideG => exact GW.keep HG.out (by repeat (first | (with_reducible first | exact HB.out | apply below_alloc | apply pw_below_drewN | apply below_drew1) | exact HB.out))); rintro e w44 ⟨rfl, hb⟩; have n0_ := Aside0.mk (Kd.R_below (by (with_reducible repeat (first | apply Kd.R_alloc | apply Kd.R_drewN | apply Kd.R_drew)); exact HO439.out) hb); have n1_ := Aside0.mk (below_step (by repeat (first | (with_reducible first | exact HB.out | apply below_alloc | apply pw_below_drewN | apply below_drew1) | exact HB.out)) hb); clear HO439; clear HB; have HO439 := n0_; have HB := n1_; clear n0_ n1_; (try clear hb); (try clear hb2); (try clear hk); (try clear hi)))
            go_ret
            exact ⟨by first | rfl | (simp [errW_none, errW_some] <;> rfl) | (simp [*, errW_none, errW_some] <;> rfl), by repeat (first | (with_reducible first | exact HB.out | apply below_alloc | apply pw_below_drewN | apply below_drew1) | exact HB.out)⟩
        · replace c10 := Bool.eq_false_iff.mpr c10
          subst c10
          have H1 : (some false) = some r := by rw [if_neg (show ¬ (false = true) by decide)] at H; exact H
          clear H
          have H := H1
          clear H1
          obtain rfl := Option.some.inj H
          go_enter Tryd.func64, Tryd.ntmps64
          go_wp2_with (first | ((with_reducible refine gate_callee (f := 67) rfl ?_); refine goesL_ (some 1) rfl rfl Tryd.func67 (by kernel_rfl) rfl #[.int .i64 1] rfl (by (try simp only [List.map_toArray, List.map_cons, List.map_nil]); first | done | rfl | (simp only [List.length_drop, List.length_take]; rfl)) ?_; (with_reducible refine (covenantlaw05_number.calls 1 t429 t430 t431 t432 _ A1.out).mono ?_); rintro e w45 ⟨rfl, hb⟩; refine ⟨_, rfl, ?_⟩; have n0_ := Aside0.mk (below_step (by repeat (first | (with_reducible first | exact HB.out | apply below_alloc | apply pw_below_drewN | apply below_drew1) | exact HB.out)) hb); clear HB; have HB := n0_; clear n0_; (try clear hb); (try clear hb2); (try clear hk); (try clear hi)) | ((with_reducible refine gate_callee (f := 66) rfl ?_); refine goesL_ (some 2) rfl rfl Tryd.func66 (by kernel_rfl) rfl #[.string (⟨#[97]⟩ : ByteArray)] rfl (by (try simp only [List.map_toArray, List.map_cons, List.map_nil]); first | done | rfl | (simp only [List.length_drop, List.length_take]; rfl)) ?_; (with_reducible refine (covenantlaw05_text.calls (⟨#[97]⟩ : ByteArray) t433 t434 t435 t436 _ A2.out).mono ?_); rintro e w46 ⟨rfl, hb⟩; refine ⟨_, rfl, ?_⟩; have n0_ := Aside0.mk (below_step (by repeat (first | (with_reducible first | exact HB.out | apply below_alloc | apply pw_below_drewN | apply below_drew1) | exact HB.out)) hb); clear HB; have HB := n0_; clear n0_; (try clear hb); (try clear hb2); (try clear hk); (try clear hi)) | ((with_reducible refine gate_dst (N := 4) rfl ?_); (try (refine gate_guard (by rfl) ?_; dsimp only)); refine Kd.R_lit k23 _ 23 ?hg (N := 4) ?hd (xs := ([(⟨t429, t430, t431, t432⟩ : S23), (⟨t433, t434, t435, t436⟩ : S23), (⟨0, 0, 0, (⟨#[]⟩ : ByteArray)⟩ : S23)] : List (S23))) (inner := [.int .u8 t429, .int .i64 t430, .int .i64 t431, .string t432, .int .u8 t433, .int .i64 t434, .int .i64 t435, .string t436, .int .u8 0, .int .i64 0, .int .i64 0, .string (⟨#[]⟩ : ByteArray)]) (ok := fun _ => True) (okp := fun _ => True) ?hr ?hp (fun _ hk => hk) trivial (Below.refl _ _) (Nat.le_refl _) (by simp) ?_; (case hd => rfl); (case hg => rfl); (case hr => first | (go_simp; done) | (go_simp; rfl)); (case hp => exact (Reps.c4 (show Kd.M k23 _ _ _ (⟨t429, t430, t431, t432⟩ : S23) [.int .u8 t429, .int .i64 t430, .int .i64 t431, .string t432] from (k23_mkM _ _ _ (⟨t429, t430, t431, t432⟩ : S23) )) (Reps.c4 (show Kd.M k23 _ _ _ (⟨t433, t434, t435, t436⟩ : S23) [.int .u8 t433, .int .i64 t434, .int .i64 t435, .string t436] from (k23_mkM _ _ _ (⟨t433, t434, t435, t436⟩ : S23) )) (Reps.c4 (show Kd.M k23 _ _ _ (⟨0, 0, 0, (⟨#[]⟩ : ByteArray)⟩ : S23) [.int .u8 0, .int .i64 0, .int .i64 0, .string (⟨#[]⟩ : ByteArray)] from (k23_mkM _ _ _ (⟨0, 0, 0, (⟨#[]⟩ : ByteArray)⟩ : S23) )) (Reps.none _ _))))); intro v438 w47 ho48 hb hg_ hnew_; clear hg_ hnew_; (first | rw [← Ny437.out] at ho48 | (simp only [Int.reduceToNat] at ho48; rw [← Ny437.out] at ho48)); have n0_ := Aside0.mk (Kd.R_lower ho48 (below_size (by repeat (first | (with_reducible first | exact HB.out | apply below_alloc | apply pw_below_drewN | apply below_drew1) | exact HB.out)))); have n1_ := Aside0.mk (below_step (by repeat (first | (with_reducible first | exact HB.out | apply below_alloc | apply pw_below_drewN | apply below_drew1) | exact HB.out)) hb); clear HB; have HO439 := n0_; have HB := n1_; clear n0_ n1_; clear hb ho48; obtain ⟨Ao49, co49, eo49⟩ := Kd.R_slice HO439.out; subst eo49) | ((with_reducible refine gate_callee (f := 65) rfl ?_); refine goesL_ (some 5) rfl rfl Tryd.func65 (by kernel_rfl) rfl #[.string (⟨#[40, 49, 44, 32, 39, 97, 39, 44, 32, 110, 117, 108, 108, 41]⟩ : ByteArray), .slice Ao49 y437.length co49] rfl (by (try simp only [List.map_toArray, List.map_cons, List.map_nil]); first | done | rfl | (simp only [List.length_drop, List.length_take]; rfl)) ?_; (with_reducible refine (covenantlaw05_says.calls k (⟨#[40, 49, 44, 32, 39, 97, 39, 44, 32, 110, 117, 108, 108, 41]⟩ : ByteArray) _ _ y437 true _ ?side1 ?side2 A3.out ?sideG).mono ?_); (case sideG => exact GW.keep HG.out (by repeat (first | (with_reducible first | exact HB.out | apply below_alloc | apply pw_below_drewN | apply below_drew1) | exact HB.out))); (case side1 => repeat (first | exact (Kd.R_reads' HO439.out).2.2 | (with_reducible refine Kd.C_alloc ?_ _) | (with_reducible refine Kd.C_drewN ?_ _) | (with_reducible refine Kd.C_drew ?_))); (case side2 => exact (Kd.R_reads' HO439.out).2.1); rintro e w50 ⟨rfl, hb⟩; refine ⟨_, rfl, ?_⟩; have n0_ := Aside0.mk (Kd.R_below (by (with_reducible repeat (first | apply Kd.R_alloc | apply Kd.R_drewN | apply Kd.R_drew)); exact HO439.out) hb); have n1_ := Aside0.mk (below_step (by repeat (first | (with_reducible first | exact HB.out | apply below_alloc | apply pw_below_drewN | apply below_drew1) | exact HB.out)) hb); clear HO439; clear HB; have HO439 := n0_; have HB := n1_; clear n0_ n1_; (try clear hb); (try clear hb2); (try clear hk); (try clear hi)) | (go_at_call 65; (refine (covenantlaw05_says.calls k (⟨#[40, 41]⟩ : ByteArray) _ _ ([] : List (S23)) true _ ?side1 ?side2 A5.out ?sideG).mono ?_); (case sideG => exact GW.keep HG.out (by repeat (first | (with_reducible first | exact HB.out | apply below_alloc | apply pw_below_drewN | apply below_drew1) | exact HB.out))); (case side1 => exact Kd.C_nil _ _); (case side2 => exact Nat.le_refl _); rintro e w51 ⟨rfl, hb⟩; have n0_ := Aside0.mk (Kd.R_below (by (with_reducible repeat (first | apply Kd.R_alloc | apply Kd.R_drewN | apply Kd.R_drew)); exact HO439.out) hb); have n1_ := Aside0.mk (below_step (by repeat (first | (with_reducible first | exact HB.out | apply below_alloc | apply pw_below_drewN | apply below_drew1) | exact HB.out)) hb); clear HO439; clear HB; have HO439 := n0_; have HB := n1_; clear n0_ n1_; (try clear hb); (try clear hb2); (try clear hk); (try clear hi)) | (go_at_call 68; (with_reducible refine (covenantlaw05_none.calls k (⟨#[40, 49, 44, 50, 41]⟩ : ByteArray) true _ A7.out ?sideG).mono ?_); (case sideG => exact GW.keep HG.out (by repeat (first | (with_reducible first | exact HB.out | apply below_alloc | apply pw_below_drewN | apply below_drew1) | exact HB.out))); rintro e w52 ⟨rfl, hb⟩; have n0_ := Aside0.mk (Kd.R_below (by (with_reducible repeat (first | apply Kd.R_alloc | apply Kd.R_drewN | apply Kd.R_drew)); exact HO439.out) hb); have n1_ := Aside0.mk (below_step (by repeat (first | (with_reducible first | exact HB.out | apply below_alloc | apply pw_below_drewN | apply below_drew1) | exact HB.out)) hb); clear HO439; clear HB; have HO439 := n0_; have HB := n1_; clear n0_ n1_; (try clear hb); (try clear hb2); (try clear hk); (try clear hi)) | (go_at_call 68; (with_reducible refine (covenantlaw05_none.calls k (⟨#[40, 49, 44, 32, 41]⟩ : ByteArray) false _ A9.out ?sideG).mono ?_); (case sideG => exact GW.keep HG.out (by repeat (first | (with_reducible first | exact HB.out | apply below_alloc | apply pw_below_drewN | apply below_drew1) | exact HB.out))); rintro e w53 ⟨rfl, hb⟩; have n0_ := Aside0.mk (Kd.R_below (by (with_reducible repeat (first | apply Kd.R_alloc | apply Kd.R_drewN | apply Kd.R_drew)); exact HO439.out) hb); have n1_ := Aside0.mk (below_step (by repeat (first | (with_reducible first | exact HB.out | apply below_alloc | apply pw_below_drewN | apply below_drew1) | exact HB.out)) hb); clear HO439; clear HB; have HO439 := n0_; have HB := n1_; clear n0_ n1_; (try clear hb); (try clear hb2); (try clear hk); (try clear hi)))
          go_ret
          exact ⟨by first | rfl | (simp [errW_none, errW_some] <;> rfl) | (simp [*, errW_none, errW_some] <;> rfl), by repeat (first | (with_reducible first | exact HB.out | apply below_alloc | apply pw_below_drewN | apply below_drew1) | exact HB.out)⟩
      · replace c8 := Bool.eq_false_iff.mpr c8
        subst c8
        have H1 : (some false) = some r := by rw [if_neg (show ¬ (false = true) by decide)] at H; exact H
        clear H
        have H := H1
        clear H1
        obtain rfl := Option.some.inj H
        go_enter Tryd.func64, Tryd.ntmps64
        go_wp2_with (first | ((with_reducible refine gate_callee (f := 67) rfl ?_); refine goesL_ (some 1) rfl rfl Tryd.func67 (by kernel_rfl) rfl #[.int .i64 1] rfl (by (try simp only [List.map_toArray, List.map_cons, List.map_nil]); first | done | rfl | (simp only [List.length_drop, List.length_take]; rfl)) ?_; (with_reducible refine (covenantlaw05_number.calls 1 t429 t430 t431 t432 _ A1.out).mono ?_); rintro e w54 ⟨rfl, hb⟩; refine ⟨_, rfl, ?_⟩; have n0_ := Aside0.mk (below_step (by repeat (first | (with_reducible first | exact HB.out | apply below_alloc | apply pw_below_drewN | apply below_drew1) | exact HB.out)) hb); clear HB; have HB := n0_; clear n0_; (try clear hb); (try clear hb2); (try clear hk); (try clear hi)) | ((with_reducible refine gate_callee (f := 66) rfl ?_); refine goesL_ (some 2) rfl rfl Tryd.func66 (by kernel_rfl) rfl #[.string (⟨#[97]⟩ : ByteArray)] rfl (by (try simp only [List.map_toArray, List.map_cons, List.map_nil]); first | done | rfl | (simp only [List.length_drop, List.length_take]; rfl)) ?_; (with_reducible refine (covenantlaw05_text.calls (⟨#[97]⟩ : ByteArray) t433 t434 t435 t436 _ A2.out).mono ?_); rintro e w55 ⟨rfl, hb⟩; refine ⟨_, rfl, ?_⟩; have n0_ := Aside0.mk (below_step (by repeat (first | (with_reducible first | exact HB.out | apply below_alloc | apply pw_below_drewN | apply below_drew1) | exact HB.out)) hb); clear HB; have HB := n0_; clear n0_; (try clear hb); (try clear hb2); (try clear hk); (try clear hi)) | ((with_reducible refine gate_dst (N := 4) rfl ?_); (try (refine gate_guard (by rfl) ?_; dsimp only)); refine Kd.R_lit k23 _ 23 ?hg (N := 4) ?hd (xs := ([(⟨t429, t430, t431, t432⟩ : S23), (⟨t433, t434, t435, t436⟩ : S23), (⟨0, 0, 0, (⟨#[]⟩ : ByteArray)⟩ : S23)] : List (S23))) (inner := [.int .u8 t429, .int .i64 t430, .int .i64 t431, .string t432, .int .u8 t433, .int .i64 t434, .int .i64 t435, .string t436, .int .u8 0, .int .i64 0, .int .i64 0, .string (⟨#[]⟩ : ByteArray)]) (ok := fun _ => True) (okp := fun _ => True) ?hr ?hp (fun _ hk => hk) trivial (Below.refl _ _) (Nat.le_refl _) (by simp) ?_; (case hd => rfl); (case hg => rfl); (case hr => first | (go_simp; done) | (go_simp; rfl)); (case hp => exact (Reps.c4 (show Kd.M k23 _ _ _ (⟨t429, t430, t431, t432⟩ : S23) [.int .u8 t429, .int .i64 t430, .int .i64 t431, .string t432] from (k23_mkM _ _ _ (⟨t429, t430, t431, t432⟩ : S23) )) (Reps.c4 (show Kd.M k23 _ _ _ (⟨t433, t434, t435, t436⟩ : S23) [.int .u8 t433, .int .i64 t434, .int .i64 t435, .string t436] from (k23_mkM _ _ _ (⟨t433, t434, t435, t436⟩ : S23) )) (Reps.c4 (show Kd.M k23 _ _ _ (⟨0, 0, 0, (⟨#[]⟩ : ByteArray)⟩ : S23) [.int .u8 0, .int .i64 0, .int .i64 0, .string (⟨#[]⟩ : ByteArray)] from (k23_mkM _ _ _ (⟨0, 0, 0, (⟨#[]⟩ : ByteArray)⟩ : S23) )) (Reps.none _ _))))); intro v438 w56 ho57 hb hg_ hnew_; clear hg_ hnew_; (first | rw [← Ny437.out] at ho57 | (simp only [Int.reduceToNat] at ho57; rw [← Ny437.out] at ho57)); have n0_ := Aside0.mk (Kd.R_lower ho57 (below_size (by repeat (first | (with_reducible first | exact HB.out | apply below_alloc | apply pw_below_drewN | apply below_drew1) | exact HB.out)))); have n1_ := Aside0.mk (below_step (by repeat (first | (with_reducible first | exact HB.out | apply below_alloc | apply pw_below_drewN | apply below_drew1) | exact HB.out)) hb); clear HB; have HO439 := n0_; have HB := n1_; clear n0_ n1_; clear hb ho57; obtain ⟨Ao58, co58, eo58⟩ := Kd.R_slice HO439.out; subst eo58) | ((with_reducible refine gate_callee (f := 65) rfl ?_); refine goesL_ (some 5) rfl rfl Tryd.func65 (by kernel_rfl) rfl #[.string (⟨#[40, 49, 44, 32, 39, 97, 39, 44, 32, 110, 117, 108, 108, 41]⟩ : ByteArray), .slice Ao58 y437.length co58] rfl (by (try simp only [List.map_toArray, List.map_cons, List.map_nil]); first | done | rfl | (simp only [List.length_drop, List.length_take]; rfl)) ?_; (with_reducible refine (covenantlaw05_says.calls k (⟨#[40, 49, 44, 32, 39, 97, 39, 44, 32, 110, 117, 108, 108, 41]⟩ : ByteArray) _ _ y437 true _ ?side1 ?side2 A3.out ?sideG).mono ?_); (case sideG => exact GW.keep HG.out (by repeat (first | (with_reducible first | exact HB.out | apply below_alloc | apply pw_below_drewN | apply below_drew1) | exact HB.out))); (case side1 => repeat (first | exact (Kd.R_reads' HO439.out).2.2 | (with_reducible refine Kd.C_alloc ?_ _) | (with_reducible refine Kd.C_drewN ?_ _) | (with_reducible refine Kd.C_drew ?_))); (case side2 => exact (Kd.R_reads' HO439.out).2.1); rintro e w59 ⟨rfl, hb⟩; refine ⟨_, rfl, ?_⟩; have n0_ := Aside0.mk (Kd.R_below (by (with_reducible repeat (first | apply Kd.R_alloc | apply Kd.R_drewN | apply Kd.R_drew)); exact HO439.out) hb); have n1_ := Aside0.mk (below_step (by repeat (first | (with_reducible first | exact HB.out | apply below_alloc | apply pw_below_drewN | apply below_drew1) | exact HB.out)) hb); clear HO439; clear HB; have HO439 := n0_; have HB := n1_; clear n0_ n1_; (try clear hb); (try clear hb2); (try clear hk); (try clear hi)) | (go_at_call 65; (refine (covenantlaw05_says.calls k (⟨#[40, 41]⟩ : ByteArray) _ _ ([] : List (S23)) true _ ?side1 ?side2 A5.out ?sideG).mono ?_); (case sideG => exact GW.keep HG.out (by repeat (first | (with_reducible first | exact HB.out | apply below_alloc | apply pw_below_drewN | apply below_drew1) | exact HB.out))); (case side1 => exact Kd.C_nil _ _); (case side2 => exact Nat.le_refl _); rintro e w60 ⟨rfl, hb⟩; have n0_ := Aside0.mk (Kd.R_below (by (with_reducible repeat (first | apply Kd.R_alloc | apply Kd.R_drewN | apply Kd.R_drew)); exact HO439.out) hb); have n1_ := Aside0.mk (below_step (by repeat (first | (with_reducible first | exact HB.out | apply below_alloc | apply pw_below_drewN | apply below_drew1) | exact HB.out)) hb); clear HO439; clear HB; have HO439 := n0_; have HB := n1_; clear n0_ n1_; (try clear hb); (try clear hb2); (try clear hk); (try clear hi)) | (go_at_call 68; (with_reducible refine (covenantlaw05_none.calls k (⟨#[40, 49, 44, 50, 41]⟩ : ByteArray) false _ A7.out ?sideG).mono ?_); (case sideG => exact GW.keep HG.out (by repeat (first | (with_reducible first | exact HB.out | apply below_alloc | apply pw_below_drewN | apply below_drew1) | exact HB.out))); rintro e w61 ⟨rfl, hb⟩; have n0_ := Aside0.mk (Kd.R_below (by (with_reducible repeat (first | apply Kd.R_alloc | apply Kd.R_drewN | apply Kd.R_drew)); exact HO439.out) hb); have n1_ := Aside0.mk (below_step (by repeat (first | (with_reducible first | exact HB.out | apply below_alloc | apply pw_below_drewN | apply below_drew1) | exact HB.out)) hb); clear HO439; clear HB; have HO439 := n0_; have HB := n1_; clear n0_ n1_; (try clear hb); (try clear hb2); (try clear hk); (try clear hi)))
        go_ret
        exact ⟨by first | rfl | (simp [errW_none, errW_some] <;> rfl) | (simp [*, errW_none, errW_some] <;> rfl), by repeat (first | (with_reducible first | exact HB.out | apply below_alloc | apply pw_below_drewN | apply below_drew1) | exact HB.out)⟩
    · replace c6 := Bool.eq_false_iff.mpr c6
      subst c6
      have H1 : (some false) = some r := by rw [if_neg (show ¬ (false = true) by decide)] at H; exact H
      clear H
      have H := H1
      clear H1
      obtain rfl := Option.some.inj H
      go_enter Tryd.func64, Tryd.ntmps64
      go_wp2_with (first | ((with_reducible refine gate_callee (f := 67) rfl ?_); refine goesL_ (some 1) rfl rfl Tryd.func67 (by kernel_rfl) rfl #[.int .i64 1] rfl (by (try simp only [List.map_toArray, List.map_cons, List.map_nil]); first | done | rfl | (simp only [List.length_drop, List.length_take]; rfl)) ?_; (with_reducible refine (covenantlaw05_number.calls 1 t429 t430 t431 t432 _ A1.out).mono ?_); rintro e w62 ⟨rfl, hb⟩; refine ⟨_, rfl, ?_⟩; have n0_ := Aside0.mk (below_step (by repeat (first | (with_reducible first | exact HB.out | apply below_alloc | apply pw_below_drewN | apply below_drew1) | exact HB.out)) hb); clear HB; have HB := n0_; clear n0_; (try clear hb); (try clear hb2); (try clear hk); (try clear hi)) | ((with_reducible refine gate_callee (f := 66) rfl ?_); refine goesL_ (some 2) rfl rfl Tryd.func66 (by kernel_rfl) rfl #[.string (⟨#[97]⟩ : ByteArray)] rfl (by (try simp only [List.map_toArray, List.map_cons, List.map_nil]); first | done | rfl | (simp only [List.length_drop, List.length_take]; rfl)) ?_; (with_reducible refine (covenantlaw05_text.calls (⟨#[97]⟩ : ByteArray) t433 t434 t435 t436 _ A2.out).mono ?_); rintro e w63 ⟨rfl, hb⟩; refine ⟨_, rfl, ?_⟩; have n0_ := Aside0.mk (below_step (by repeat (first | (with_reducible first | exact HB.out | apply below_alloc | apply pw_below_drewN | apply below_drew1) | exact HB.out)) hb); clear HB; have HB := n0_; clear n0_; (try clear hb); (try clear hb2); (try clear hk); (try clear hi)) | ((with_reducible refine gate_dst (N := 4) rfl ?_); (try (refine gate_guard (by rfl) ?_; dsimp only)); refine Kd.R_lit k23 _ 23 ?hg (N := 4) ?hd (xs := ([(⟨t429, t430, t431, t432⟩ : S23), (⟨t433, t434, t435, t436⟩ : S23), (⟨0, 0, 0, (⟨#[]⟩ : ByteArray)⟩ : S23)] : List (S23))) (inner := [.int .u8 t429, .int .i64 t430, .int .i64 t431, .string t432, .int .u8 t433, .int .i64 t434, .int .i64 t435, .string t436, .int .u8 0, .int .i64 0, .int .i64 0, .string (⟨#[]⟩ : ByteArray)]) (ok := fun _ => True) (okp := fun _ => True) ?hr ?hp (fun _ hk => hk) trivial (Below.refl _ _) (Nat.le_refl _) (by simp) ?_; (case hd => rfl); (case hg => rfl); (case hr => first | (go_simp; done) | (go_simp; rfl)); (case hp => exact (Reps.c4 (show Kd.M k23 _ _ _ (⟨t429, t430, t431, t432⟩ : S23) [.int .u8 t429, .int .i64 t430, .int .i64 t431, .string t432] from (k23_mkM _ _ _ (⟨t429, t430, t431, t432⟩ : S23) )) (Reps.c4 (show Kd.M k23 _ _ _ (⟨t433, t434, t435, t436⟩ : S23) [.int .u8 t433, .int .i64 t434, .int .i64 t435, .string t436] from (k23_mkM _ _ _ (⟨t433, t434, t435, t436⟩ : S23) )) (Reps.c4 (show Kd.M k23 _ _ _ (⟨0, 0, 0, (⟨#[]⟩ : ByteArray)⟩ : S23) [.int .u8 0, .int .i64 0, .int .i64 0, .string (⟨#[]⟩ : ByteArray)] from (k23_mkM _ _ _ (⟨0, 0, 0, (⟨#[]⟩ : ByteArray)⟩ : S23) )) (Reps.none _ _))))); intro v438 w64 ho65 hb hg_ hnew_; clear hg_ hnew_; (first | rw [← Ny437.out] at ho65 | (simp only [Int.reduceToNat] at ho65; rw [← Ny437.out] at ho65)); have n0_ := Aside0.mk (Kd.R_lower ho65 (below_size (by repeat (first | (with_reducible first | exact HB.out | apply below_alloc | apply pw_below_drewN | apply below_drew1) | exact HB.out)))); have n1_ := Aside0.mk (below_step (by repeat (first | (with_reducible first | exact HB.out | apply below_alloc | apply pw_below_drewN | apply below_drew1) | exact HB.out)) hb); clear HB; have HO439 := n0_; have HB := n1_; clear n0_ n1_; clear hb ho65; obtain ⟨Ao66, co66, eo66⟩ := Kd.R_slice HO439.out; subst eo66) | ((with_reducible refine gate_callee (f := 65) rfl ?_); refine goesL_ (some 5) rfl rfl Tryd.func65 (by kernel_rfl) rfl #[.string (⟨#[40, 49, 44, 32, 39, 97, 39, 44, 32, 110, 117, 108, 108, 41]⟩ : ByteArray), .slice Ao66 y437.length co66] rfl (by (try simp only [List.map_toArray, List.map_cons, List.map_nil]); first | done | rfl | (simp only [List.length_drop, List.length_take]; rfl)) ?_; (with_reducible refine (covenantlaw05_says.calls k (⟨#[40, 49, 44, 32, 39, 97, 39, 44, 32, 110, 117, 108, 108, 41]⟩ : ByteArray) _ _ y437 true _ ?side1 ?side2 A3.out ?sideG).mono ?_); (case sideG => exact GW.keep HG.out (by repeat (first | (with_reducible first | exact HB.out | apply below_alloc | apply pw_below_drewN | apply below_drew1) | exact HB.out))); (case side1 => repeat (first | exact (Kd.R_reads' HO439.out).2.2 | (with_reducible refine Kd.C_alloc ?_ _) | (with_reducible refine Kd.C_drewN ?_ _) | (with_reducible refine Kd.C_drew ?_))); (case side2 => exact (Kd.R_reads' HO439.out).2.1); rintro e w67 ⟨rfl, hb⟩; refine ⟨_, rfl, ?_⟩; have n0_ := Aside0.mk (Kd.R_below (by (with_reducible repeat (first | apply Kd.R_alloc | apply Kd.R_drewN | apply Kd.R_drew)); exact HO439.out) hb); have n1_ := Aside0.mk (below_step (by repeat (first | (with_reducible first | exact HB.out | apply below_alloc | apply pw_below_drewN | apply below_drew1) | exact HB.out)) hb); clear HO439; clear HB; have HO439 := n0_; have HB := n1_; clear n0_ n1_; (try clear hb); (try clear hb2); (try clear hk); (try clear hi)) | (go_at_call 65; (refine (covenantlaw05_says.calls k (⟨#[40, 41]⟩ : ByteArray) _ _ ([] : List (S23)) false _ ?side1 ?side2 A5.out ?sideG).mono ?_); (case sideG => exact GW.keep HG.out (by repeat (first | (with_reducible first | exact HB.out | apply below_alloc | apply pw_below_drewN | apply below_drew1) | exact HB.out))); (case side1 => exact Kd.C_nil _ _); (case side2 => exact Nat.le_refl _); rintro e w68 ⟨rfl, hb⟩; have n0_ := Aside0.mk (Kd.R_below (by (with_reducible repeat (first | apply Kd.R_alloc | apply Kd.R_drewN | apply Kd.R_drew)); exact HO439.out) hb); have n1_ := Aside0.mk (below_step (by repeat (first | (with_reducible first | exact HB.out | apply below_alloc | apply pw_below_drewN | apply below_drew1) | exact HB.out)) hb); clear HO439; clear HB; have HO439 := n0_; have HB := n1_; clear n0_ n1_; (try clear hb); (try clear hb2); (try clear hk); (try clear hi)))
      go_ret
      exact ⟨by first | rfl | (simp [errW_none, errW_some] <;> rfl) | (simp [*, errW_none, errW_some] <;> rfl), by repeat (first | (with_reducible first | exact HB.out | apply below_alloc | apply pw_below_drewN | apply below_drew1) | exact HB.out)⟩
  · replace c4 := Bool.eq_false_iff.mpr c4
    subst c4
    have H1 : (some false) = some r := by rw [if_neg (show ¬ (false = true) by decide)] at H; exact H
    clear H
    have H := H1
    clear H1
    obtain rfl := Option.some.inj H
    go_enter Tryd.func64, Tryd.ntmps64
    go_wp2_with (first | ((with_reducible refine gate_callee (f := 67) rfl ?_); refine goesL_ (some 1) rfl rfl Tryd.func67 (by kernel_rfl) rfl #[.int .i64 1] rfl (by (try simp only [List.map_toArray, List.map_cons, List.map_nil]); first | done | rfl | (simp only [List.length_drop, List.length_take]; rfl)) ?_; (with_reducible refine (covenantlaw05_number.calls 1 t429 t430 t431 t432 _ A1.out).mono ?_); rintro e w69 ⟨rfl, hb⟩; refine ⟨_, rfl, ?_⟩; have n0_ := Aside0.mk (below_step (by repeat (first | (with_reducible first | exact HB.out | apply below_alloc | apply pw_below_drewN | apply below_drew1) | exact HB.out)) hb); clear HB; have HB := n0_; clear n0_; (try clear hb); (try clear hb2); (try clear hk); (try clear hi)) | ((with_reducible refine gate_callee (f := 66) rfl ?_); refine goesL_ (some 2) rfl rfl Tryd.func66 (by kernel_rfl) rfl #[.string (⟨#[97]⟩ : ByteArray)] rfl (by (try simp only [List.map_toArray, List.map_cons, List.map_nil]); first | done | rfl | (simp only [List.length_drop, List.length_take]; rfl)) ?_; (with_reducible refine (covenantlaw05_text.calls (⟨#[97]⟩ : ByteArray) t433 t434 t435 t436 _ A2.out).mono ?_); rintro e w70 ⟨rfl, hb⟩; refine ⟨_, rfl, ?_⟩; have n0_ := Aside0.mk (below_step (by repeat (first | (with_reducible first | exact HB.out | apply below_alloc | apply pw_below_drewN | apply below_drew1) | exact HB.out)) hb); clear HB; have HB := n0_; clear n0_; (try clear hb); (try clear hb2); (try clear hk); (try clear hi)) | ((with_reducible refine gate_dst (N := 4) rfl ?_); (try (refine gate_guard (by rfl) ?_; dsimp only)); refine Kd.R_lit k23 _ 23 ?hg (N := 4) ?hd (xs := ([(⟨t429, t430, t431, t432⟩ : S23), (⟨t433, t434, t435, t436⟩ : S23), (⟨0, 0, 0, (⟨#[]⟩ : ByteArray)⟩ : S23)] : List (S23))) (inner := [.int .u8 t429, .int .i64 t430, .int .i64 t431, .string t432, .int .u8 t433, .int .i64 t434, .int .i64 t435, .string t436, .int .u8 0, .int .i64 0, .int .i64 0, .string (⟨#[]⟩ : ByteArray)]) (ok := fun _ => True) (okp := fun _ => True) ?hr ?hp (fun _ hk => hk) trivial (Below.refl _ _) (Nat.le_refl _) (by simp) ?_; (case hd => rfl); (case hg => rfl); (case hr => first | (go_simp; done) | (go_simp; rfl)); (case hp => exact (Reps.c4 (show Kd.M k23 _ _ _ (⟨t429, t430, t431, t432⟩ : S23) [.int .u8 t429, .int .i64 t430, .int .i64 t431, .string t432] from (k23_mkM _ _ _ (⟨t429, t430, t431, t432⟩ : S23) )) (Reps.c4 (show Kd.M k23 _ _ _ (⟨t433, t434, t435, t436⟩ : S23) [.int .u8 t433, .int .i64 t434, .int .i64 t435, .string t436] from (k23_mkM _ _ _ (⟨t433, t434, t435, t436⟩ : S23) )) (Reps.c4 (show Kd.M k23 _ _ _ (⟨0, 0, 0, (⟨#[]⟩ : ByteArray)⟩ : S23) [.int .u8 0, .int .i64 0, .int .i64 0, .string (⟨#[]⟩ : ByteArray)] from (k23_mkM _ _ _ (⟨0, 0, 0, (⟨#[]⟩ : ByteArray)⟩ : S23) )) (Reps.none _ _))))); intro v438 w71 ho72 hb hg_ hnew_; clear hg_ hnew_; (first | rw [← Ny437.out] at ho72 | (simp only [Int.reduceToNat] at ho72; rw [← Ny437.out] at ho72)); have n0_ := Aside0.mk (Kd.R_lower ho72 (below_size (by repeat (first | (with_reducible first | exact HB.out | apply below_alloc | apply pw_below_drewN | apply below_drew1) | exact HB.out)))); have n1_ := Aside0.mk (below_step (by repeat (first | (with_reducible first | exact HB.out | apply below_alloc | apply pw_below_drewN | apply below_drew1) | exact HB.out)) hb); clear HB; have HO439 := n0_; have HB := n1_; clear n0_ n1_; clear hb ho72; obtain ⟨Ao73, co73, eo73⟩ := Kd.R_slice HO439.out; subst eo73) | ((with_reducible refine gate_callee (f := 65) rfl ?_); refine goesL_ (some 5) rfl rfl Tryd.func65 (by kernel_rfl) rfl #[.string (⟨#[40, 49, 44, 32, 39, 97, 39, 44, 32, 110, 117, 108, 108, 41]⟩ : ByteArray), .slice Ao73 y437.length co73] rfl (by (try simp only [List.map_toArray, List.map_cons, List.map_nil]); first | done | rfl | (simp only [List.length_drop, List.length_take]; rfl)) ?_; (with_reducible refine (covenantlaw05_says.calls k (⟨#[40, 49, 44, 32, 39, 97, 39, 44, 32, 110, 117, 108, 108, 41]⟩ : ByteArray) _ _ y437 false _ ?side1 ?side2 A3.out ?sideG).mono ?_); (case sideG => exact GW.keep HG.out (by repeat (first | (with_reducible first | exact HB.out | apply below_alloc | apply pw_below_drewN | apply below_drew1) | exact HB.out))); (case side1 => repeat (first | exact (Kd.R_reads' HO439.out).2.2 | (with_reducible refine Kd.C_alloc ?_ _) | (with_reducible refine Kd.C_drewN ?_ _) | (with_reducible refine Kd.C_drew ?_))); (case side2 => exact (Kd.R_reads' HO439.out).2.1); rintro e w74 ⟨rfl, hb⟩; refine ⟨_, rfl, ?_⟩; have n0_ := Aside0.mk (Kd.R_below (by (with_reducible repeat (first | apply Kd.R_alloc | apply Kd.R_drewN | apply Kd.R_drew)); exact HO439.out) hb); have n1_ := Aside0.mk (below_step (by repeat (first | (with_reducible first | exact HB.out | apply below_alloc | apply pw_below_drewN | apply below_drew1) | exact HB.out)) hb); clear HO439; clear HB; have HO439 := n0_; have HB := n1_; clear n0_ n1_; (try clear hb); (try clear hb2); (try clear hk); (try clear hi)))
    go_ret
    exact ⟨by first | rfl | (simp [errW_none, errW_some] <;> rfl) | (simp [*, errW_none, errW_some] <;> rfl), by repeat (first | (with_reducible first | exact HB.out | apply below_alloc | apply pw_below_drewN | apply below_drew1) | exact HB.out)⟩

end Go.Proofs.YtddmllocjocipaaDoor.D
