/- What the functions that a law reaches come to, as plain Lean functions, and the law's row: written by a session's own program over the kit's print.py, some functions proved by hand. Conditions: as each theorem states them. -/
import Derived.Test.YtddmllocjocipaaDoorDx17
import Derived.Test.YtddmllocjocipaaDoorDx18
import Derived.Test.YtddmllocjocipaaDoorDx20
namespace Go.Proofs.YtddmllocjocipaaDoor.D
open Go.RowKit Go.Proofs.YtddmllocjocipaaDoorW.PrintWords Go.Proofs.YtddmllocjocipaaDoorW.PrintLast Go.Proofs.YtddmllocjocipaaDoorW.PrintMore
attribute [local go_sem] max2_int min2_int max_two min_two max_three min_three max_four min_four   -- for this text's walks alone
set_option linter.unusedVariables false
set_option linter.unusedSimpArgs false

attribute [local go_sem high] eqA23
/-! ### rNames: function 19 -/
mutual
def rNames.j0 : Nat → Bool → Option (Bool)
  | 0, _ => none
  | k + 1, x38 => if x38 = true then (some false) else ((some (([(⟨#[]⟩ : ByteArray), (⟨#[40]⟩ : ByteArray), (⟨#[41]⟩ : ByteArray), (⟨#[40, 49]⟩ : ByteArray), (⟨#[49, 41]⟩ : ByteArray), (⟨#[40, 49, 41, 40, 50, 41]⟩ : ByteArray), (⟨#[40, 32, 49, 41]⟩ : ByteArray), (⟨#[40, 49, 32, 41]⟩ : ByteArray), (⟨#[40, 49, 44, 32, 50, 44, 41]⟩ : ByteArray), (⟨#[40, 44, 32, 41]⟩ : ByteArray), (⟨#[40, 49, 44, 32, 32, 50, 41]⟩ : ByteArray), (⟨#[40, 49, 59, 32, 50, 41]⟩ : ByteArray), (⟨#[40, 39, 97, 41]⟩ : ByteArray), (⟨#[40, 39, 97, 39, 44, 32, 41]⟩ : ByteArray), (⟨#[91, 49, 44, 32, 50, 41]⟩ : ByteArray), (⟨#[40, 40, 41, 41]⟩ : ByteArray), (⟨#[40, 49, 41, 120]⟩ : ByteArray)] : List ByteArray) : List ByteArray)).bind fun y316 => (rNames.l0 k y316 (y316.length : Int) 0))
def rNames.l0 : Nat → List ByteArray → Int → Int → Option (Bool)
  | 0, _, _, _ => none
  | k + 1, x39, x40, x41 => if x41 < x40 then (if 0 ≤ x41 then (if x41 < (x39.length : Int) then ((covenantlaw05_none.f k (rdOf ByteArray.empty x39 x41)).bind fun t320 => (if t320 = true then (rNames.l0 k x39 x40 (wrap64 (x41 + 1))) else (some false))) else (none)) else (none)) else ((some (([(⟨(⟨#[97]⟩ : ByteArray), 1, (⟨0, 0, 0, (⟨#[]⟩ : ByteArray)⟩ : S23)⟩ : S65), (⟨(⟨#[98]⟩ : ByteArray), 3, (⟨0, 0, 0, (⟨#[]⟩ : ByteArray)⟩ : S23)⟩ : S65)] : List (S65)) : List (S65))).bind fun y321 => ((covenantlaw05_number.f 1).bind fun bt325 => ((covenantlaw05_text.f (⟨#[]⟩ : ByteArray)).bind fun bt329 => ((row_Fits.f k (([(⟨bt325.1, bt325.2.1, bt325.2.2.1, bt325.2.2.2⟩ : S23), (⟨bt329.1, bt329.2.1, bt329.2.2.1, bt329.2.2.2⟩ : S23)] : List (S23))) y321).bind fun t336 => (if t336 = 0 then ((row_Fits.f k (([(⟨0, 0, 0, (⟨#[]⟩ : ByteArray)⟩ : S23), (⟨0, 0, 0, (⟨#[]⟩ : ByteArray)⟩ : S23)] : List (S23))) y321).bind fun t340 => (if t340 = 0 then ((covenantlaw05_number.f 1).bind fun bt341 => ((row_Fits.f k (([(⟨bt341.1, bt341.2.1, bt341.2.2.1, bt341.2.2.2⟩ : S23)] : List (S23))) y321).bind fun t348 => (if t348 = 4 then ((covenantlaw05_text.f (⟨#[97]⟩ : ByteArray)).bind fun bt349 => ((covenantlaw05_number.f 1).bind fun bt353 => ((row_Fits.f k (([(⟨bt349.1, bt349.2.1, bt349.2.2.1, bt349.2.2.2⟩ : S23), (⟨bt353.1, bt353.2.1, bt353.2.2.1, bt353.2.2.2⟩ : S23), (⟨0, 0, 0, (⟨#[]⟩ : ByteArray)⟩ : S23)] : List (S23))) y321).bind fun t360 => (if t360 = 4 then ((covenantlaw05_text.f (⟨#[]⟩ : ByteArray)).bind fun bt361 => ((covenantlaw05_number.f 1).bind fun bt365 => ((row_Fits.f k (([(⟨bt361.1, bt361.2.1, bt361.2.2.1, bt361.2.2.2⟩ : S23), (⟨bt365.1, bt365.2.1, bt365.2.2.1, bt365.2.2.2⟩ : S23)] : List (S23))) y321).bind fun t372 => (if t372 = 60 then ((covenantlaw05_text.f (⟨#[]⟩ : ByteArray)).bind fun bt373 => ((row_Fits.f k (([(⟨1, 0, 0, (⟨#[120]⟩ : ByteArray)⟩ : S23), (⟨bt373.1, bt373.2.1, bt373.2.2.1, bt373.2.2.2⟩ : S23)] : List (S23))) y321).bind fun t380 => (if t380 = 60 then ((row_Fits.f k ([] : List (S23)) ([] : List (S65))).bind fun t381 => (if t381 = 0 then ((covenantlaw05_number.f 1).bind fun bt382 => ((row_Text.f k (([(⟨bt382.1, bt382.2.1, bt382.2.2.1, bt382.2.2.2⟩ : S23), (⟨1, 0, 0, (⟨#[120]⟩ : ByteArray)⟩ : S23)] : List (S23)))).bind fun t389 => (some (t389.toList == ([] : List UInt8))))) else (some false))) else (some false)))) else (some false))))) else (some false))))) else (some false)))) else (some false))) else (some false))))))
end
def rNames.f (k : Nat)  : Option (Bool) := (covenantlaw05_works.f k).bind fun t275 => (if t275 = true then ((covenantlaw05_text.f (⟨#[44, 32]⟩ : ByteArray)).bind fun bt276 => ((covenantlaw05_text.f (⟨#[39]⟩ : ByteArray)).bind fun bt280 => ((covenantlaw05_number.f 1).bind fun bt284 => ((covenantlaw05_says.f k (⟨#[40, 39, 44, 32, 39, 44, 32, 39, 39, 39, 39, 44, 32, 49, 41]⟩ : ByteArray) (([(⟨bt276.1, bt276.2.1, bt276.2.2.1, bt276.2.2.2⟩ : S23), (⟨bt280.1, bt280.2.1, bt280.2.2.1, bt280.2.2.2⟩ : S23), (⟨bt284.1, bt284.2.1, bt284.2.2.1, bt284.2.2.2⟩ : S23)] : List (S23)))).bind fun t291 => (if t291 = true then ((covenantlaw05_text.f (⟨#[40]⟩ : ByteArray)).bind fun bt292 => ((covenantlaw05_text.f (⟨#[41]⟩ : ByteArray)).bind fun bt296 => ((covenantlaw05_says.f k (⟨#[40, 39, 40, 39, 44, 32, 39, 41, 39, 41]⟩ : ByteArray) (([(⟨bt292.1, bt292.2.1, bt292.2.2.1, bt292.2.2.2⟩ : S23), (⟨bt296.1, bt296.2.1, bt296.2.2.1, bt296.2.2.2⟩ : S23)] : List (S23)))).bind fun t303 => (if t303 = true then ((covenantlaw05_says.f k (⟨#[40, 91, 49, 44, 50, 41, 44, 32, 121, 101, 115, 41]⟩ : ByteArray) (([(⟨4, 1, 2, (⟨#[]⟩ : ByteArray)⟩ : S23), (⟨2, 1, 0, (⟨#[]⟩ : ByteArray)⟩ : S23)] : List (S23)))).bind fun t307 => (if t307 = true then ((covenantlaw05_text.f (⟨#[]⟩ : ByteArray)).bind fun bt308 => ((covenantlaw05_says.f k (⟨#[40, 39, 39, 41]⟩ : ByteArray) (([(⟨bt308.1, bt308.2.1, bt308.2.2.1, bt308.2.2.2⟩ : S23)] : List (S23)))).bind fun t315 => (rNames.j0 k (!t315)))) else (rNames.j0 k true))) else (rNames.j0 k true))))) else (rNames.j0 k true)))))) else (rNames.j0 k true))
theorem rNames.mono_l : ∀ k, (∀ y0, LeO (rNames.j0 k y0) (rNames.j0 (k + 1) y0)) ∧ (∀ y0 y1 y2, LeO (rNames.l0 k y0 y1 y2) (rNames.l0 (k + 1) y0 y1 y2))
  | 0 => ⟨fun _ r h => by simp [rNames.j0] at h, fun _ _ _ r h => by simp [rNames.l0] at h⟩
  | k + 1 => by
    obtain ⟨ih0, ih1⟩ := rNames.mono_l k
    refine ⟨?_, ?_⟩
    · intro y0
      unfold rNames.j0
      repeat' first
      | (with_reducible exact ih0 _)
      | (with_reducible exact ih1 _ _ _)
      | (with_reducible exact covenantlaw05_none.mono _ _)
      | (with_reducible exact covenantlaw05_says.mono _ _ _)
      | (with_reducible exact covenantlaw05_works.mono _)
      | (with_reducible exact row_Fits.mono _ _ _)
      | (with_reducible exact row_Text.mono _ _)
      | (with_reducible exact LeO.refl _)
      | (with_reducible exact LeO.none _)
      | (with_reducible refine LeO.ite ?_ ?_)
      | (with_reducible refine LeO.bind ?_ (fun _ => ?_))
      | exact ih0 _
      | exact ih1 _ _ _
      | exact covenantlaw05_none.mono _ _
      | exact covenantlaw05_says.mono _ _ _
      | exact covenantlaw05_works.mono _
      | exact row_Fits.mono _ _ _
      | exact row_Text.mono _ _
      | exact LeO.none _
      | refine LeO.ite ?_ ?_
      | refine LeO.bind ?_ (fun _ => ?_)
    · intro y0 y1 y2
      unfold rNames.l0
      repeat' first
      | (with_reducible exact ih0 _)
      | (with_reducible exact ih1 _ _ _)
      | (with_reducible exact covenantlaw05_none.mono _ _)
      | (with_reducible exact covenantlaw05_says.mono _ _ _)
      | (with_reducible exact covenantlaw05_works.mono _)
      | (with_reducible exact row_Fits.mono _ _ _)
      | (with_reducible exact row_Text.mono _ _)
      | (with_reducible exact LeO.refl _)
      | (with_reducible exact LeO.none _)
      | (with_reducible refine LeO.ite ?_ ?_)
      | (with_reducible refine LeO.bind ?_ (fun _ => ?_))
      | exact ih0 _
      | exact ih1 _ _ _
      | exact covenantlaw05_none.mono _ _
      | exact covenantlaw05_says.mono _ _ _
      | exact covenantlaw05_works.mono _
      | exact row_Fits.mono _ _ _
      | exact row_Text.mono _ _
      | exact LeO.none _
      | refine LeO.ite ?_ ?_
      | refine LeO.bind ?_ (fun _ => ?_)
theorem rNames.mono : ∀ k, LeO (rNames.f k ) (rNames.f (k + 1) ) := by
  intro  k
  obtain ⟨ih0, ih1⟩ := rNames.mono_l k
  unfold rNames.f
  repeat' first
      | (with_reducible exact ih0 _)
      | (with_reducible exact ih1 _ _ _)
      | (with_reducible exact covenantlaw05_none.mono _ _)
      | (with_reducible exact covenantlaw05_says.mono _ _ _)
      | (with_reducible exact covenantlaw05_works.mono _)
      | (with_reducible exact row_Fits.mono _ _ _)
      | (with_reducible exact row_Text.mono _ _)
      | (with_reducible exact LeO.refl _)
      | (with_reducible exact LeO.none _)
      | (with_reducible refine LeO.ite ?_ ?_)
      | (with_reducible refine LeO.bind ?_ (fun _ => ?_))
      | exact ih0 _
      | exact ih1 _ _ _
      | exact covenantlaw05_none.mono _ _
      | exact covenantlaw05_says.mono _ _ _
      | exact covenantlaw05_works.mono _
      | exact row_Fits.mono _ _ _
      | exact row_Text.mono _ _
      | exact LeO.none _
      | refine LeO.ite ?_ ?_
      | refine LeO.bind ?_ (fun _ => ?_)
def rNames.T11 : Bool × List (List Nat × List Nat) := (true, [([], []), ([0], []), ([0, 1], [0, 1]), ([], []), ([2, 3, 1], [2, 3]), ([4], [4]), ([5, 4], [5]), ([6], [6]), ([6], [6]), ([7, 8, 6], [6, 7, 8]), ([6], [6]), ([9, 10, 6, 6], [6, 9, 10]), ([11, 6], [6, 11]), ([6, 12], [6, 12]), ([13, 11], [13]), ([14, 14], [14]), ([15, 14], [14, 15]), ([14], [14]), ([16, 17, 15, 14], [14, 16, 17]), ([18, 14], [14, 18]), ([14, 19], [14, 19]), ([20, 18], [20]), ([21, 21], [21]), ([22, 21], [21]), ([21], [21]), ([22, 23, 24, 21], [21, 22, 23, 24]), ([21], [21]), ([25, 26, 23, 21], [21, 25, 26]), ([27, 21], [21, 27]), ([21, 28], [21, 28]), ([29, 27], [29]), ([30, 30], [30]), ([31, 30], [30]), ([31, 32, 30], [30, 31, 32]), ([30], [30]), ([33, 34, 32, 30], [30, 33, 34]), ([35, 30], [30, 35]), ([30, 36], [30, 36]), ([37, 35], [37]), ([38], [38]), ([38, 38], [38]), ([39, 40, 38], [38, 39, 40]), ([38], [38]), ([41, 42, 40, 38], [38, 41, 42]), ([43, 38], [38, 43]), ([38, 44], [38, 44]), ([45, 43], [45]), ([46, 46], [46]), ([47, 46], [46, 47]), ([46, 48], [46, 48]), ([49, 47], [49]), ([50, 50], [50]), ([50], [50]), ([51, 52, 50], [50, 51, 52]), ([53, 51, 50], [50, 53]), ([54, 50], [50, 54]), ([50, 55], [50, 55]), ([56, 54, 0, 1, 2, 3, 4, 5, 6, 7, 8, 9, 10, 11, 12, 13, 14, 15, 16, 17, 18, 19, 20, 21, 22, 23, 24, 25, 26, 27, 28, 29, 30, 31, 32, 33, 34, 35, 36, 37, 38, 39, 40, 41, 42, 43, 44, 45, 46, 47, 48, 49, 50, 51, 52, 53, 54, 55, 56], [56])])
def rNames.B11 : List Nat := [0, 1, 3, 0, 15, 31, 63, 127, 127, 511, 127, 2047, 4095, 8191, 16383, 32767, 65535, 32767, 262143, 524287, 1048575, 2097151, 4194303, 8388607, 4194303, 33554431, 4194303, 134217727, 268435455, 536870911, 1073741823, 2147483647, 4294967295, 8589934591, 2147483647, 34359738367, 68719476735, 137438953471, 274877906943, 549755813887, 549755813887, 2199023255551, 549755813887, 8796093022207, 17592186044415, 35184372088831, 70368744177663, 140737488355327, 281474976710655, 562949953421311, 1125899906842623, 2251799813685247, 2251799813685247, 9007199254740991, 18014398509481983, 36028797018963967, 72057594037927935, 144115188075855871]
theorem rNames.tab11 : rtab .any (opsOf Tryd.f19 11) = rNames.T11 := by kernel_rfl
theorem rNames.bits11 : waitsOk rNames.T11.2 rNames.B11 = true := by kernel_rfl
theorem rNames.j0_ne (k : Nat) : rNames.j0 k true ≠ some true := by
  cases k with
  | zero => simp [rNames.j0]
  | succ k => simp [rNames.j0]
set_option maxHeartbeats 8000000 in
set_option maxRecDepth 100000 in
theorem rNames.calls (k : Nat)  (r : Bool) (w : World) (h : rNames.f k  = some r) (hG : GW true w) (hr : r = true) :
    Calls Tryd.prog 19 #[] w fun e w' => e = .returned (.bool r) ∧ Below w.heap.size w w' := by
  have HR9 := Aside0.mk hr
  clear hr
  have HG := Aside0.mk hG
  clear hG
  have hu23 := Tryd.underlying23
  have hu65 := Tryd.underlying65
  have HB := Aside0.mk (Below.refl w.heap.size w)
  have H : ((covenantlaw05_works.f k).bind fun t275 => (if t275 = true then ((covenantlaw05_text.f (⟨#[44, 32]⟩ : ByteArray)).bind fun bt276 => ((covenantlaw05_text.f (⟨#[39]⟩ : ByteArray)).bind fun bt280 => ((covenantlaw05_number.f 1).bind fun bt284 => ((covenantlaw05_says.f k (⟨#[40, 39, 44, 32, 39, 44, 32, 39, 39, 39, 39, 44, 32, 49, 41]⟩ : ByteArray) (([(⟨bt276.1, bt276.2.1, bt276.2.2.1, bt276.2.2.2⟩ : S23), (⟨bt280.1, bt280.2.1, bt280.2.2.1, bt280.2.2.2⟩ : S23), (⟨bt284.1, bt284.2.1, bt284.2.2.1, bt284.2.2.2⟩ : S23)] : List (S23)))).bind fun t291 => (if t291 = true then ((covenantlaw05_text.f (⟨#[40]⟩ : ByteArray)).bind fun bt292 => ((covenantlaw05_text.f (⟨#[41]⟩ : ByteArray)).bind fun bt296 => ((covenantlaw05_says.f k (⟨#[40, 39, 40, 39, 44, 32, 39, 41, 39, 41]⟩ : ByteArray) (([(⟨bt292.1, bt292.2.1, bt292.2.2.1, bt292.2.2.2⟩ : S23), (⟨bt296.1, bt296.2.1, bt296.2.2.1, bt296.2.2.2⟩ : S23)] : List (S23)))).bind fun t303 => (if t303 = true then ((covenantlaw05_says.f k (⟨#[40, 91, 49, 44, 50, 41, 44, 32, 121, 101, 115, 41]⟩ : ByteArray) (([(⟨4, 1, 2, (⟨#[]⟩ : ByteArray)⟩ : S23), (⟨2, 1, 0, (⟨#[]⟩ : ByteArray)⟩ : S23)] : List (S23)))).bind fun t307 => (if t307 = true then ((covenantlaw05_text.f (⟨#[]⟩ : ByteArray)).bind fun bt308 => ((covenantlaw05_says.f k (⟨#[40, 39, 39, 41]⟩ : ByteArray) (([(⟨bt308.1, bt308.2.1, bt308.2.2.1, bt308.2.2.2⟩ : S23)] : List (S23)))).bind fun t315 => (rNames.j0 k (!t315)))) else (rNames.j0 k true))) else (rNames.j0 k true))))) else (rNames.j0 k true)))))) else (rNames.j0 k true))) = some r := h
  clear h
  have HC1 := Aside0.mk H
  clear H
  go_enter Tryd.func19, Tryd.ntmps19
  go_upto_region 1 with (fail)
  go_cut [38] (fun v38 wc => ∃ (kq : Nat) (x38_0 : Bool), v38 = .bool x38_0 ∧ Aside0 (rNames.j0 kq x38_0 = some r) ∧ Aside0 (kq ≤ k) ∧ Aside0 (Below w.heap.size w wc))
  case first =>
    have H := HC1.out
    clear HC1
    replace H := Option.bind_eq_some_iff.mp H
    obtain ⟨t275, A20, H⟩ := H
    replace H : (if t275 = true then ((covenantlaw05_text.f (⟨#[44, 32]⟩ : ByteArray)).bind fun bt276 => ((covenantlaw05_text.f (⟨#[39]⟩ : ByteArray)).bind fun bt280 => ((covenantlaw05_number.f 1).bind fun bt284 => ((covenantlaw05_says.f k (⟨#[40, 39, 44, 32, 39, 44, 32, 39, 39, 39, 39, 44, 32, 49, 41]⟩ : ByteArray) (([(⟨bt276.1, bt276.2.1, bt276.2.2.1, bt276.2.2.2⟩ : S23), (⟨bt280.1, bt280.2.1, bt280.2.2.1, bt280.2.2.2⟩ : S23), (⟨bt284.1, bt284.2.1, bt284.2.2.1, bt284.2.2.2⟩ : S23)] : List (S23)))).bind fun t291 => (if t291 = true then ((covenantlaw05_text.f (⟨#[40]⟩ : ByteArray)).bind fun bt292 => ((covenantlaw05_text.f (⟨#[41]⟩ : ByteArray)).bind fun bt296 => ((covenantlaw05_says.f k (⟨#[40, 39, 40, 39, 44, 32, 39, 41, 39, 41]⟩ : ByteArray) (([(⟨bt292.1, bt292.2.1, bt292.2.2.1, bt292.2.2.2⟩ : S23), (⟨bt296.1, bt296.2.1, bt296.2.2.1, bt296.2.2.2⟩ : S23)] : List (S23)))).bind fun t303 => (if t303 = true then ((covenantlaw05_says.f k (⟨#[40, 91, 49, 44, 50, 41, 44, 32, 121, 101, 115, 41]⟩ : ByteArray) (([(⟨4, 1, 2, (⟨#[]⟩ : ByteArray)⟩ : S23), (⟨2, 1, 0, (⟨#[]⟩ : ByteArray)⟩ : S23)] : List (S23)))).bind fun t307 => (if t307 = true then ((covenantlaw05_text.f (⟨#[]⟩ : ByteArray)).bind fun bt308 => ((covenantlaw05_says.f k (⟨#[40, 39, 39, 41]⟩ : ByteArray) (([(⟨bt308.1, bt308.2.1, bt308.2.2.1, bt308.2.2.2⟩ : S23)] : List (S23)))).bind fun t315 => (rNames.j0 k (!t315)))) else (rNames.j0 k true))) else (rNames.j0 k true))))) else (rNames.j0 k true)))))) else (rNames.j0 k true)) = some r := H
    have A2 := Aside0.mk A20
    clear A20
    by_cases c3 : t275 = true
    · subst c3
      have H1 : ((covenantlaw05_text.f (⟨#[44, 32]⟩ : ByteArray)).bind fun bt276 => ((covenantlaw05_text.f (⟨#[39]⟩ : ByteArray)).bind fun bt280 => ((covenantlaw05_number.f 1).bind fun bt284 => ((covenantlaw05_says.f k (⟨#[40, 39, 44, 32, 39, 44, 32, 39, 39, 39, 39, 44, 32, 49, 41]⟩ : ByteArray) (([(⟨bt276.1, bt276.2.1, bt276.2.2.1, bt276.2.2.2⟩ : S23), (⟨bt280.1, bt280.2.1, bt280.2.2.1, bt280.2.2.2⟩ : S23), (⟨bt284.1, bt284.2.1, bt284.2.2.1, bt284.2.2.2⟩ : S23)] : List (S23)))).bind fun t291 => (if t291 = true then ((covenantlaw05_text.f (⟨#[40]⟩ : ByteArray)).bind fun bt292 => ((covenantlaw05_text.f (⟨#[41]⟩ : ByteArray)).bind fun bt296 => ((covenantlaw05_says.f k (⟨#[40, 39, 40, 39, 44, 32, 39, 41, 39, 41]⟩ : ByteArray) (([(⟨bt292.1, bt292.2.1, bt292.2.2.1, bt292.2.2.2⟩ : S23), (⟨bt296.1, bt296.2.1, bt296.2.2.1, bt296.2.2.2⟩ : S23)] : List (S23)))).bind fun t303 => (if t303 = true then ((covenantlaw05_says.f k (⟨#[40, 91, 49, 44, 50, 41, 44, 32, 121, 101, 115, 41]⟩ : ByteArray) (([(⟨4, 1, 2, (⟨#[]⟩ : ByteArray)⟩ : S23), (⟨2, 1, 0, (⟨#[]⟩ : ByteArray)⟩ : S23)] : List (S23)))).bind fun t307 => (if t307 = true then ((covenantlaw05_text.f (⟨#[]⟩ : ByteArray)).bind fun bt308 => ((covenantlaw05_says.f k (⟨#[40, 39, 39, 41]⟩ : ByteArray) (([(⟨bt308.1, bt308.2.1, bt308.2.2.1, bt308.2.2.2⟩ : S23)] : List (S23)))).bind fun t315 => (rNames.j0 k (!t315)))) else (rNames.j0 k true))) else (rNames.j0 k true))))) else (rNames.j0 k true)))))) = some r := by rw [if_pos rfl] at H; exact H
      clear H
      have H := H1
      clear H1
      replace H := Option.bind_eq_some_iff.mp H
      obtain ⟨⟨t276, t277, t278, t279⟩, A40, H⟩ := H
      replace H : ((covenantlaw05_text.f (⟨#[39]⟩ : ByteArray)).bind fun bt280 => ((covenantlaw05_number.f 1).bind fun bt284 => ((covenantlaw05_says.f k (⟨#[40, 39, 44, 32, 39, 44, 32, 39, 39, 39, 39, 44, 32, 49, 41]⟩ : ByteArray) (([(⟨t276, t277, t278, t279⟩ : S23), (⟨bt280.1, bt280.2.1, bt280.2.2.1, bt280.2.2.2⟩ : S23), (⟨bt284.1, bt284.2.1, bt284.2.2.1, bt284.2.2.2⟩ : S23)] : List (S23)))).bind fun t291 => (if t291 = true then ((covenantlaw05_text.f (⟨#[40]⟩ : ByteArray)).bind fun bt292 => ((covenantlaw05_text.f (⟨#[41]⟩ : ByteArray)).bind fun bt296 => ((covenantlaw05_says.f k (⟨#[40, 39, 40, 39, 44, 32, 39, 41, 39, 41]⟩ : ByteArray) (([(⟨bt292.1, bt292.2.1, bt292.2.2.1, bt292.2.2.2⟩ : S23), (⟨bt296.1, bt296.2.1, bt296.2.2.1, bt296.2.2.2⟩ : S23)] : List (S23)))).bind fun t303 => (if t303 = true then ((covenantlaw05_says.f k (⟨#[40, 91, 49, 44, 50, 41, 44, 32, 121, 101, 115, 41]⟩ : ByteArray) (([(⟨4, 1, 2, (⟨#[]⟩ : ByteArray)⟩ : S23), (⟨2, 1, 0, (⟨#[]⟩ : ByteArray)⟩ : S23)] : List (S23)))).bind fun t307 => (if t307 = true then ((covenantlaw05_text.f (⟨#[]⟩ : ByteArray)).bind fun bt308 => ((covenantlaw05_says.f k (⟨#[40, 39, 39, 41]⟩ : ByteArray) (([(⟨bt308.1, bt308.2.1, bt308.2.2.1, bt308.2.2.2⟩ : S23)] : List (S23)))).bind fun t315 => (rNames.j0 k (!t315)))) else (rNames.j0 k true))) else (rNames.j0 k true))))) else (rNames.j0 k true))))) = some r := H
      have A4 := Aside0.mk A40
      clear A40
      replace H := Option.bind_eq_some_iff.mp H
      obtain ⟨⟨t280, t281, t282, t283⟩, A50, H⟩ := H
      replace H : ((covenantlaw05_number.f 1).bind fun bt284 => ((covenantlaw05_says.f k (⟨#[40, 39, 44, 32, 39, 44, 32, 39, 39, 39, 39, 44, 32, 49, 41]⟩ : ByteArray) (([(⟨t276, t277, t278, t279⟩ : S23), (⟨t280, t281, t282, t283⟩ : S23), (⟨bt284.1, bt284.2.1, bt284.2.2.1, bt284.2.2.2⟩ : S23)] : List (S23)))).bind fun t291 => (if t291 = true then ((covenantlaw05_text.f (⟨#[40]⟩ : ByteArray)).bind fun bt292 => ((covenantlaw05_text.f (⟨#[41]⟩ : ByteArray)).bind fun bt296 => ((covenantlaw05_says.f k (⟨#[40, 39, 40, 39, 44, 32, 39, 41, 39, 41]⟩ : ByteArray) (([(⟨bt292.1, bt292.2.1, bt292.2.2.1, bt292.2.2.2⟩ : S23), (⟨bt296.1, bt296.2.1, bt296.2.2.1, bt296.2.2.2⟩ : S23)] : List (S23)))).bind fun t303 => (if t303 = true then ((covenantlaw05_says.f k (⟨#[40, 91, 49, 44, 50, 41, 44, 32, 121, 101, 115, 41]⟩ : ByteArray) (([(⟨4, 1, 2, (⟨#[]⟩ : ByteArray)⟩ : S23), (⟨2, 1, 0, (⟨#[]⟩ : ByteArray)⟩ : S23)] : List (S23)))).bind fun t307 => (if t307 = true then ((covenantlaw05_text.f (⟨#[]⟩ : ByteArray)).bind fun bt308 => ((covenantlaw05_says.f k (⟨#[40, 39, 39, 41]⟩ : ByteArray) (([(⟨bt308.1, bt308.2.1, bt308.2.2.1, bt308.2.2.2⟩ : S23)] : List (S23)))).bind fun t315 => (rNames.j0 k (!t315)))) else (rNames.j0 k true))) else (rNames.j0 k true))))) else (rNames.j0 k true)))) = some r := H
      have A5 := Aside0.mk A50
      clear A50
      replace H := Option.bind_eq_some_iff.mp H
      obtain ⟨⟨t284, t285, t286, t287⟩, A60, H⟩ := H
      replace H : ((covenantlaw05_says.f k (⟨#[40, 39, 44, 32, 39, 44, 32, 39, 39, 39, 39, 44, 32, 49, 41]⟩ : ByteArray) (([(⟨t276, t277, t278, t279⟩ : S23), (⟨t280, t281, t282, t283⟩ : S23), (⟨t284, t285, t286, t287⟩ : S23)] : List (S23)))).bind fun t291 => (if t291 = true then ((covenantlaw05_text.f (⟨#[40]⟩ : ByteArray)).bind fun bt292 => ((covenantlaw05_text.f (⟨#[41]⟩ : ByteArray)).bind fun bt296 => ((covenantlaw05_says.f k (⟨#[40, 39, 40, 39, 44, 32, 39, 41, 39, 41]⟩ : ByteArray) (([(⟨bt292.1, bt292.2.1, bt292.2.2.1, bt292.2.2.2⟩ : S23), (⟨bt296.1, bt296.2.1, bt296.2.2.1, bt296.2.2.2⟩ : S23)] : List (S23)))).bind fun t303 => (if t303 = true then ((covenantlaw05_says.f k (⟨#[40, 91, 49, 44, 50, 41, 44, 32, 121, 101, 115, 41]⟩ : ByteArray) (([(⟨4, 1, 2, (⟨#[]⟩ : ByteArray)⟩ : S23), (⟨2, 1, 0, (⟨#[]⟩ : ByteArray)⟩ : S23)] : List (S23)))).bind fun t307 => (if t307 = true then ((covenantlaw05_text.f (⟨#[]⟩ : ByteArray)).bind fun bt308 => ((covenantlaw05_says.f k (⟨#[40, 39, 39, 41]⟩ : ByteArray) (([(⟨bt308.1, bt308.2.1, bt308.2.2.1, bt308.2.2.2⟩ : S23)] : List (S23)))).bind fun t315 => (rNames.j0 k (!t315)))) else (rNames.j0 k true))) else (rNames.j0 k true))))) else (rNames.j0 k true))) = some r := H
      have A6 := Aside0.mk A60
      clear A60
      obtain ⟨y288, hy288⟩ : ∃ y_ : List (S23), y_ = (([(⟨t276, t277, t278, t279⟩ : S23), (⟨t280, t281, t282, t283⟩ : S23), (⟨t284, t285, t286, t287⟩ : S23)] : List (S23))) := ⟨_, rfl⟩
      replace H : ((covenantlaw05_says.f k (⟨#[40, 39, 44, 32, 39, 44, 32, 39, 39, 39, 39, 44, 32, 49, 41]⟩ : ByteArray) y288).bind fun t291 => (if t291 = true then ((covenantlaw05_text.f (⟨#[40]⟩ : ByteArray)).bind fun bt292 => ((covenantlaw05_text.f (⟨#[41]⟩ : ByteArray)).bind fun bt296 => ((covenantlaw05_says.f k (⟨#[40, 39, 40, 39, 44, 32, 39, 41, 39, 41]⟩ : ByteArray) (([(⟨bt292.1, bt292.2.1, bt292.2.2.1, bt292.2.2.2⟩ : S23), (⟨bt296.1, bt296.2.1, bt296.2.2.1, bt296.2.2.2⟩ : S23)] : List (S23)))).bind fun t303 => (if t303 = true then ((covenantlaw05_says.f k (⟨#[40, 91, 49, 44, 50, 41, 44, 32, 121, 101, 115, 41]⟩ : ByteArray) (([(⟨4, 1, 2, (⟨#[]⟩ : ByteArray)⟩ : S23), (⟨2, 1, 0, (⟨#[]⟩ : ByteArray)⟩ : S23)] : List (S23)))).bind fun t307 => (if t307 = true then ((covenantlaw05_text.f (⟨#[]⟩ : ByteArray)).bind fun bt308 => ((covenantlaw05_says.f k (⟨#[40, 39, 39, 41]⟩ : ByteArray) (([(⟨bt308.1, bt308.2.1, bt308.2.2.1, bt308.2.2.2⟩ : S23)] : List (S23)))).bind fun t315 => (rNames.j0 k (!t315)))) else (rNames.j0 k true))) else (rNames.j0 k true))))) else (rNames.j0 k true))) = some r := by first | (rw [hy288]; with_reducible exact H) | (have H2_ := (Option.bind_some _ _).symm.trans H; rw [hy288]; with_reducible exact H2_) | (have H2_ := (Option.bind_some _ _).symm.trans H; with_reducible exact H2_) | with_reducible exact H | (rw [hy288]; exact H) | exact H
      have Ny288 := Aside0.mk hy288
      clear hy288
      replace H := Option.bind_eq_some_iff.mp H
      obtain ⟨t291, A70, H⟩ := H
      replace H : (if t291 = true then ((covenantlaw05_text.f (⟨#[40]⟩ : ByteArray)).bind fun bt292 => ((covenantlaw05_text.f (⟨#[41]⟩ : ByteArray)).bind fun bt296 => ((covenantlaw05_says.f k (⟨#[40, 39, 40, 39, 44, 32, 39, 41, 39, 41]⟩ : ByteArray) (([(⟨bt292.1, bt292.2.1, bt292.2.2.1, bt292.2.2.2⟩ : S23), (⟨bt296.1, bt296.2.1, bt296.2.2.1, bt296.2.2.2⟩ : S23)] : List (S23)))).bind fun t303 => (if t303 = true then ((covenantlaw05_says.f k (⟨#[40, 91, 49, 44, 50, 41, 44, 32, 121, 101, 115, 41]⟩ : ByteArray) (([(⟨4, 1, 2, (⟨#[]⟩ : ByteArray)⟩ : S23), (⟨2, 1, 0, (⟨#[]⟩ : ByteArray)⟩ : S23)] : List (S23)))).bind fun t307 => (if t307 = true then ((covenantlaw05_text.f (⟨#[]⟩ : ByteArray)).bind fun bt308 => ((covenantlaw05_says.f k (⟨#[40, 39, 39, 41]⟩ : ByteArray) (([(⟨bt308.1, bt308.2.1, bt308.2.2.1, bt308.2.2.2⟩ : S23)] : List (S23)))).bind fun t315 => (rNames.j0 k (!t315)))) else (rNames.j0 k true))) else (rNames.j0 k true))))) else (rNames.j0 k true)) = some r := H
      have A7 := Aside0.mk A70
      clear A70
      by_cases c8 : t291 = true
      · subst c8
        have H1 : ((covenantlaw05_text.f (⟨#[40]⟩ : ByteArray)).bind fun bt292 => ((covenantlaw05_text.f (⟨#[41]⟩ : ByteArray)).bind fun bt296 => ((covenantlaw05_says.f k (⟨#[40, 39, 40, 39, 44, 32, 39, 41, 39, 41]⟩ : ByteArray) (([(⟨bt292.1, bt292.2.1, bt292.2.2.1, bt292.2.2.2⟩ : S23), (⟨bt296.1, bt296.2.1, bt296.2.2.1, bt296.2.2.2⟩ : S23)] : List (S23)))).bind fun t303 => (if t303 = true then ((covenantlaw05_says.f k (⟨#[40, 91, 49, 44, 50, 41, 44, 32, 121, 101, 115, 41]⟩ : ByteArray) (([(⟨4, 1, 2, (⟨#[]⟩ : ByteArray)⟩ : S23), (⟨2, 1, 0, (⟨#[]⟩ : ByteArray)⟩ : S23)] : List (S23)))).bind fun t307 => (if t307 = true then ((covenantlaw05_text.f (⟨#[]⟩ : ByteArray)).bind fun bt308 => ((covenantlaw05_says.f k (⟨#[40, 39, 39, 41]⟩ : ByteArray) (([(⟨bt308.1, bt308.2.1, bt308.2.2.1, bt308.2.2.2⟩ : S23)] : List (S23)))).bind fun t315 => (rNames.j0 k (!t315)))) else (rNames.j0 k true))) else (rNames.j0 k true))))) = some r := by rw [if_pos rfl] at H; exact H
        clear H
        have H := H1
        clear H1
        replace H := Option.bind_eq_some_iff.mp H
        obtain ⟨⟨t292, t293, t294, t295⟩, A90, H⟩ := H
        replace H : ((covenantlaw05_text.f (⟨#[41]⟩ : ByteArray)).bind fun bt296 => ((covenantlaw05_says.f k (⟨#[40, 39, 40, 39, 44, 32, 39, 41, 39, 41]⟩ : ByteArray) (([(⟨t292, t293, t294, t295⟩ : S23), (⟨bt296.1, bt296.2.1, bt296.2.2.1, bt296.2.2.2⟩ : S23)] : List (S23)))).bind fun t303 => (if t303 = true then ((covenantlaw05_says.f k (⟨#[40, 91, 49, 44, 50, 41, 44, 32, 121, 101, 115, 41]⟩ : ByteArray) (([(⟨4, 1, 2, (⟨#[]⟩ : ByteArray)⟩ : S23), (⟨2, 1, 0, (⟨#[]⟩ : ByteArray)⟩ : S23)] : List (S23)))).bind fun t307 => (if t307 = true then ((covenantlaw05_text.f (⟨#[]⟩ : ByteArray)).bind fun bt308 => ((covenantlaw05_says.f k (⟨#[40, 39, 39, 41]⟩ : ByteArray) (([(⟨bt308.1, bt308.2.1, bt308.2.2.1, bt308.2.2.2⟩ : S23)] : List (S23)))).bind fun t315 => (rNames.j0 k (!t315)))) else (rNames.j0 k true))) else (rNames.j0 k true)))) = some r := H
        have A9 := Aside0.mk A90
        clear A90
        replace H := Option.bind_eq_some_iff.mp H
        obtain ⟨⟨t296, t297, t298, t299⟩, A100, H⟩ := H
        replace H : ((covenantlaw05_says.f k (⟨#[40, 39, 40, 39, 44, 32, 39, 41, 39, 41]⟩ : ByteArray) (([(⟨t292, t293, t294, t295⟩ : S23), (⟨t296, t297, t298, t299⟩ : S23)] : List (S23)))).bind fun t303 => (if t303 = true then ((covenantlaw05_says.f k (⟨#[40, 91, 49, 44, 50, 41, 44, 32, 121, 101, 115, 41]⟩ : ByteArray) (([(⟨4, 1, 2, (⟨#[]⟩ : ByteArray)⟩ : S23), (⟨2, 1, 0, (⟨#[]⟩ : ByteArray)⟩ : S23)] : List (S23)))).bind fun t307 => (if t307 = true then ((covenantlaw05_text.f (⟨#[]⟩ : ByteArray)).bind fun bt308 => ((covenantlaw05_says.f k (⟨#[40, 39, 39, 41]⟩ : ByteArray) (([(⟨bt308.1, bt308.2.1, bt308.2.2.1, bt308.2.2.2⟩ : S23)] : List (S23)))).bind fun t315 => (rNames.j0 k (!t315)))) else (rNames.j0 k true))) else (rNames.j0 k true))) = some r := H
        have A10 := Aside0.mk A100
        clear A100
        obtain ⟨y300, hy300⟩ : ∃ y_ : List (S23), y_ = (([(⟨t292, t293, t294, t295⟩ : S23), (⟨t296, t297, t298, t299⟩ : S23)] : List (S23))) := ⟨_, rfl⟩
        replace H : ((covenantlaw05_says.f k (⟨#[40, 39, 40, 39, 44, 32, 39, 41, 39, 41]⟩ : ByteArray) y300).bind fun t303 => (if t303 = true then ((covenantlaw05_says.f k (⟨#[40, 91, 49, 44, 50, 41, 44, 32, 121, 101, 115, 41]⟩ : ByteArray) (([(⟨4, 1, 2, (⟨#[]⟩ : ByteArray)⟩ : S23), (⟨2, 1, 0, (⟨#[]⟩ : ByteArray)⟩ : S23)] : List (S23)))).bind fun t307 => (if t307 = true then ((covenantlaw05_text.f (⟨#[]⟩ : ByteArray)).bind fun bt308 => ((covenantlaw05_says.f k (⟨#[40, 39, 39, 41]⟩ : ByteArray) (([(⟨bt308.1, bt308.2.1, bt308.2.2.1, bt308.2.2.2⟩ : S23)] : List (S23)))).bind fun t315 => (rNames.j0 k (!t315)))) else (rNames.j0 k true))) else (rNames.j0 k true))) = some r := by first | (rw [hy300]; with_reducible exact H) | (have H2_ := (Option.bind_some _ _).symm.trans H; rw [hy300]; with_reducible exact H2_) | (have H2_ := (Option.bind_some _ _).symm.trans H; with_reducible exact H2_) | with_reducible exact H | (rw [hy300]; exact H) | exact H
        have Ny300 := Aside0.mk hy300
        clear hy300
        replace H := Option.bind_eq_some_iff.mp H
        obtain ⟨t303, A110, H⟩ := H
        replace H : (if t303 = true then ((covenantlaw05_says.f k (⟨#[40, 91, 49, 44, 50, 41, 44, 32, 121, 101, 115, 41]⟩ : ByteArray) (([(⟨4, 1, 2, (⟨#[]⟩ : ByteArray)⟩ : S23), (⟨2, 1, 0, (⟨#[]⟩ : ByteArray)⟩ : S23)] : List (S23)))).bind fun t307 => (if t307 = true then ((covenantlaw05_text.f (⟨#[]⟩ : ByteArray)).bind fun bt308 => ((covenantlaw05_says.f k (⟨#[40, 39, 39, 41]⟩ : ByteArray) (([(⟨bt308.1, bt308.2.1, bt308.2.2.1, bt308.2.2.2⟩ : S23)] : List (S23)))).bind fun t315 => (rNames.j0 k (!t315)))) else (rNames.j0 k true))) else (rNames.j0 k true)) = some r := H
        have A11 := Aside0.mk A110
        clear A110
        by_cases c12 : t303 = true
        · subst c12
          have H1 : ((covenantlaw05_says.f k (⟨#[40, 91, 49, 44, 50, 41, 44, 32, 121, 101, 115, 41]⟩ : ByteArray) (([(⟨4, 1, 2, (⟨#[]⟩ : ByteArray)⟩ : S23), (⟨2, 1, 0, (⟨#[]⟩ : ByteArray)⟩ : S23)] : List (S23)))).bind fun t307 => (if t307 = true then ((covenantlaw05_text.f (⟨#[]⟩ : ByteArray)).bind fun bt308 => ((covenantlaw05_says.f k (⟨#[40, 39, 39, 41]⟩ : ByteArray) (([(⟨bt308.1, bt308.2.1, bt308.2.2.1, bt308.2.2.2⟩ : S23)] : List (S23)))).bind fun t315 => (rNames.j0 k (!t315)))) else (rNames.j0 k true))) = some r := by rw [if_pos rfl] at H; exact H
          clear H
          have H := H1
          clear H1
          obtain ⟨y304, hy304⟩ : ∃ y_ : List (S23), y_ = (([(⟨4, 1, 2, (⟨#[]⟩ : ByteArray)⟩ : S23), (⟨2, 1, 0, (⟨#[]⟩ : ByteArray)⟩ : S23)] : List (S23))) := ⟨_, rfl⟩
          replace H : ((covenantlaw05_says.f k (⟨#[40, 91, 49, 44, 50, 41, 44, 32, 121, 101, 115, 41]⟩ : ByteArray) y304).bind fun t307 => (if t307 = true then ((covenantlaw05_text.f (⟨#[]⟩ : ByteArray)).bind fun bt308 => ((covenantlaw05_says.f k (⟨#[40, 39, 39, 41]⟩ : ByteArray) (([(⟨bt308.1, bt308.2.1, bt308.2.2.1, bt308.2.2.2⟩ : S23)] : List (S23)))).bind fun t315 => (rNames.j0 k (!t315)))) else (rNames.j0 k true))) = some r := by first | (rw [hy304]; with_reducible exact H) | (have H2_ := (Option.bind_some _ _).symm.trans H; rw [hy304]; with_reducible exact H2_) | (have H2_ := (Option.bind_some _ _).symm.trans H; with_reducible exact H2_) | with_reducible exact H | (rw [hy304]; exact H) | exact H
          have Ny304 := Aside0.mk hy304
          clear hy304
          replace H := Option.bind_eq_some_iff.mp H
          obtain ⟨t307, A130, H⟩ := H
          replace H : (if t307 = true then ((covenantlaw05_text.f (⟨#[]⟩ : ByteArray)).bind fun bt308 => ((covenantlaw05_says.f k (⟨#[40, 39, 39, 41]⟩ : ByteArray) (([(⟨bt308.1, bt308.2.1, bt308.2.2.1, bt308.2.2.2⟩ : S23)] : List (S23)))).bind fun t315 => (rNames.j0 k (!t315)))) else (rNames.j0 k true)) = some r := H
          have A13 := Aside0.mk A130
          clear A130
          by_cases c14 : t307 = true
          · subst c14
            have H1 : ((covenantlaw05_text.f (⟨#[]⟩ : ByteArray)).bind fun bt308 => ((covenantlaw05_says.f k (⟨#[40, 39, 39, 41]⟩ : ByteArray) (([(⟨bt308.1, bt308.2.1, bt308.2.2.1, bt308.2.2.2⟩ : S23)] : List (S23)))).bind fun t315 => (rNames.j0 k (!t315)))) = some r := by rw [if_pos rfl] at H; exact H
            clear H
            have H := H1
            clear H1
            replace H := Option.bind_eq_some_iff.mp H
            obtain ⟨⟨t308, t309, t310, t311⟩, A150, H⟩ := H
            replace H : ((covenantlaw05_says.f k (⟨#[40, 39, 39, 41]⟩ : ByteArray) (([(⟨t308, t309, t310, t311⟩ : S23)] : List (S23)))).bind fun t315 => (rNames.j0 k (!t315))) = some r := H
            have A15 := Aside0.mk A150
            clear A150
            obtain ⟨y312, hy312⟩ : ∃ y_ : List (S23), y_ = (([(⟨t308, t309, t310, t311⟩ : S23)] : List (S23))) := ⟨_, rfl⟩
            replace H : ((covenantlaw05_says.f k (⟨#[40, 39, 39, 41]⟩ : ByteArray) y312).bind fun t315 => (rNames.j0 k (!t315))) = some r := by first | (rw [hy312]; with_reducible exact H) | (have H2_ := (Option.bind_some _ _).symm.trans H; rw [hy312]; with_reducible exact H2_) | (have H2_ := (Option.bind_some _ _).symm.trans H; with_reducible exact H2_) | with_reducible exact H | (rw [hy312]; exact H) | exact H
            have Ny312 := Aside0.mk hy312
            clear hy312
            replace H := Option.bind_eq_some_iff.mp H
            obtain ⟨t315, A160, H⟩ := H
            replace H : (rNames.j0 k (!t315)) = some r := H
            have A16 := Aside0.mk A160
            clear A160
            have H' := Aside0.mk H
            clear H
            go_wp2_with (first | ((with_reducible refine gate_callee (f := 64) rfl ?_); refine goesL_ (some 5) rfl rfl Tryd.func64 (by kernel_rfl) rfl #[] rfl (by (try simp only [List.map_toArray, List.map_cons, List.map_nil]); first | done | rfl | (simp only [List.length_drop, List.length_take]; rfl)) ?_; (with_reducible refine (covenantlaw05_works.calls k  true _ A2.out ?sideG).mono ?_); (case sideG => exact GW.keep HG.out (by repeat (first | (with_reducible first | exact HB.out | apply below_alloc | apply pw_below_drewN | apply below_drew1 | refine below_set ?_ GE324.out) | exact HB.out))); rintro e w17 ⟨rfl, hb⟩; refine ⟨_, rfl, ?_⟩; have n0_ := Aside0.mk (below_step (by repeat (first | (with_reducible first | exact HB.out | apply below_alloc | apply pw_below_drewN | apply below_drew1) | exact HB.out)) hb); clear HB; have HB := n0_; clear n0_; (try clear hb); (try clear hb2); (try clear hk); (try clear hi)) | (go_at_call 66; (with_reducible refine (covenantlaw05_text.calls (⟨#[44, 32]⟩ : ByteArray) t276 t277 t278 t279 _ A4.out).mono ?_); rintro e w18 ⟨rfl, hb⟩; have n0_ := Aside0.mk (below_step (by repeat (first | (with_reducible first | exact HB.out | apply below_alloc | apply pw_below_drewN | apply below_drew1) | exact HB.out)) hb); clear HB; have HB := n0_; clear n0_; (try clear hb); (try clear hb2); (try clear hk); (try clear hi)) | (go_at_call 66; (with_reducible refine (covenantlaw05_text.calls (⟨#[39]⟩ : ByteArray) t280 t281 t282 t283 _ A5.out).mono ?_); rintro e w19 ⟨rfl, hb⟩; have n0_ := Aside0.mk (below_step (by repeat (first | (with_reducible first | exact HB.out | apply below_alloc | apply pw_below_drewN | apply below_drew1) | exact HB.out)) hb); clear HB; have HB := n0_; clear n0_; (try clear hb); (try clear hb2); (try clear hk); (try clear hi)) | (go_at_call 67; (with_reducible refine (covenantlaw05_number.calls 1 t284 t285 t286 t287 _ A6.out).mono ?_); rintro e w20 ⟨rfl, hb⟩; have n0_ := Aside0.mk (below_step (by repeat (first | (with_reducible first | exact HB.out | apply below_alloc | apply pw_below_drewN | apply below_drew1) | exact HB.out)) hb); clear HB; have HB := n0_; clear n0_; (try clear hb); (try clear hb2); (try clear hk); (try clear hi)) | ((with_reducible refine gate_dst (N := 15) rfl ?_); (try (refine gate_guard (by rfl) ?_; dsimp only)); refine Kd.R_lit k23 _ 23 ?hg (N := 15) ?hd (xs := ([(⟨t276, t277, t278, t279⟩ : S23), (⟨t280, t281, t282, t283⟩ : S23), (⟨t284, t285, t286, t287⟩ : S23)] : List (S23))) (inner := [.int .u8 t276, .int .i64 t277, .int .i64 t278, .string t279, .int .u8 t280, .int .i64 t281, .int .i64 t282, .string t283, .int .u8 t284, .int .i64 t285, .int .i64 t286, .string t287]) (ok := fun _ => True) (okp := fun _ => True) ?hr ?hp (fun _ hk => hk) trivial (Below.refl _ _) (Nat.le_refl _) (by simp) ?_; (case hd => rfl); (case hg => rfl); (case hr => first | (go_simp; done) | (go_simp; rfl)); (case hp => exact (Reps.c4 (show Kd.M k23 _ _ _ (⟨t276, t277, t278, t279⟩ : S23) [.int .u8 t276, .int .i64 t277, .int .i64 t278, .string t279] from (k23_mkM _ _ _ (⟨t276, t277, t278, t279⟩ : S23) )) (Reps.c4 (show Kd.M k23 _ _ _ (⟨t280, t281, t282, t283⟩ : S23) [.int .u8 t280, .int .i64 t281, .int .i64 t282, .string t283] from (k23_mkM _ _ _ (⟨t280, t281, t282, t283⟩ : S23) )) (Reps.c4 (show Kd.M k23 _ _ _ (⟨t284, t285, t286, t287⟩ : S23) [.int .u8 t284, .int .i64 t285, .int .i64 t286, .string t287] from (k23_mkM _ _ _ (⟨t284, t285, t286, t287⟩ : S23) )) (Reps.none _ _))))); intro v289 w21 ho22 hb hg_ hnew_; clear hg_ hnew_; (first | rw [← Ny288.out] at ho22 | (simp only [Int.reduceToNat] at ho22; rw [← Ny288.out] at ho22)); have n0_ := Aside0.mk (Kd.R_lower ho22 (below_size (by repeat (first | (with_reducible first | exact HB.out | apply below_alloc | apply pw_below_drewN | apply below_drew1) | exact HB.out)))); have n1_ := Aside0.mk (below_step (by repeat (first | (with_reducible first | exact HB.out | apply below_alloc | apply pw_below_drewN | apply below_drew1) | exact HB.out)) hb); clear HB; have HO290 := n0_; have HB := n1_; clear n0_ n1_; clear hb ho22; obtain ⟨Ao23, co23, eo23⟩ := Kd.R_slice HO290.out; subst eo23) | (go_at_call 65; (with_reducible refine (covenantlaw05_says.calls k (⟨#[40, 39, 44, 32, 39, 44, 32, 39, 39, 39, 39, 44, 32, 49, 41]⟩ : ByteArray) _ _ y288 true _ ?side1 ?side2 A7.out ?sideG).mono ?_); (case sideG => exact GW.keep HG.out (by repeat (first | (with_reducible first | exact HB.out | apply below_alloc | apply pw_below_drewN | apply below_drew1 | refine below_set ?_ GE324.out) | exact HB.out))); (case side1 => repeat (first | exact (Kd.R_reads' HO290.out).2.2 | (with_reducible refine Kd.C_alloc ?_ _) | (with_reducible refine Kd.C_drewN ?_ _) | (with_reducible refine Kd.C_drew ?_))); (case side2 => exact (Kd.R_reads' HO290.out).2.1); rintro e w24 ⟨rfl, hb⟩; have n0_ := Aside0.mk (Kd.R_below (by (with_reducible repeat (first | apply Kd.R_alloc | apply Kd.R_drewN | apply Kd.R_drew)); exact HO290.out) hb); have n1_ := Aside0.mk (below_step (by repeat (first | (with_reducible first | exact HB.out | apply below_alloc | apply pw_below_drewN | apply below_drew1) | exact HB.out)) hb); clear HO290; clear HB; have HO290 := n0_; have HB := n1_; clear n0_ n1_; (try clear hb); (try clear hb2); (try clear hk); (try clear hi)) | (go_at_call 66; (with_reducible refine (covenantlaw05_text.calls (⟨#[40]⟩ : ByteArray) t292 t293 t294 t295 _ A9.out).mono ?_); rintro e w25 ⟨rfl, hb⟩; have n0_ := Aside0.mk (Kd.R_below (by (with_reducible repeat (first | apply Kd.R_alloc | apply Kd.R_drewN | apply Kd.R_drew)); exact HO290.out) hb); have n1_ := Aside0.mk (below_step (by repeat (first | (with_reducible first | exact HB.out | apply below_alloc | apply pw_below_drewN | apply below_drew1) | exact HB.out)) hb); clear HO290; clear HB; have HO290 := n0_; have HB := n1_; clear n0_ n1_; (try clear hb); (try clear hb2); (try clear hk); (try clear hi)) | (go_at_call 66; (with_reducible refine (covenantlaw05_text.calls (⟨#[41]⟩ : ByteArray) t296 t297 t298 t299 _ A10.out).mono ?_); rintro e w26 ⟨rfl, hb⟩; have n0_ := Aside0.mk (Kd.R_below (by (with_reducible repeat (first | apply Kd.R_alloc | apply Kd.R_drewN | apply Kd.R_drew)); exact HO290.out) hb); have n1_ := Aside0.mk (below_step (by repeat (first | (with_reducible first | exact HB.out | apply below_alloc | apply pw_below_drewN | apply below_drew1) | exact HB.out)) hb); clear HO290; clear HB; have HO290 := n0_; have HB := n1_; clear n0_ n1_; (try clear hb); (try clear hb2); (try clear hk); (try clear hi)) | ((with_reducible refine gate_dst (N := 22) rfl ?_); (try (refine gate_guard (by rfl) ?_; dsimp only)); refine Kd.R_lit k23 _ 23 ?hg (N := 22) ?hd (xs := ([(⟨t292, t293, t294, t295⟩ : S23), (⟨t296, t297, t298, t299⟩ : S23)] : List (S23))) (inner := [.int .u8 t292, .int .i64 t293, .int .i64 t294, .string t295, .int .u8 t296, .int .i64 t297, .int .i64 t298, .string t299]) (ok := fun _ => True) (okp := fun _ => True) ?hr ?hp (fun _ hk => hk) trivial (Below.refl _ _) (Nat.le_refl _) (by simp) ?_; (case hd => rfl); (case hg => rfl); (case hr => first | (go_simp; done) | (go_simp; rfl)); (case hp => exact (Reps.c4 (show Kd.M k23 _ _ _ (⟨t292, t293, t294, t295⟩ : S23) [.int .u8 t292, .int .i64 t293, .int .i64 t294, .string t295] from (k23_mkM _ _ _ (⟨t292, t293, t294, t295⟩ : S23) )) (Reps.c4 (show Kd.M k23 _ _ _ (⟨t296, t297, t298, t299⟩ : S23) [.int .u8 t296, .int .i64 t297, .int .i64 t298, .string t299] from (k23_mkM _ _ _ (⟨t296, t297, t298, t299⟩ : S23) )) (Reps.none _ _)))); intro v301 w27 ho28 hb hg_ hnew_; clear hg_ hnew_; (first | rw [← Ny300.out] at ho28 | (simp only [Int.reduceToNat] at ho28; rw [← Ny300.out] at ho28)); have n0_ := Aside0.mk (Kd.R_elder' (by (with_reducible repeat (first | apply Kd.R_alloc | apply Kd.R_drewN | apply Kd.R_drew)); exact HO290.out) (Kd.R_base ho28) hb); have n1_ := Aside0.mk (Kd.R_lower (Kd.R_new' ho28 (Kd.R_lt (by (with_reducible repeat (first | apply Kd.R_alloc | apply Kd.R_drewN | apply Kd.R_drew)); exact HO290.out))) (below_size (by repeat (first | (with_reducible first | exact HB.out | apply below_alloc | apply pw_below_drewN | apply below_drew1) | exact HB.out)))); have n2_ := Aside0.mk (below_step (by repeat (first | (with_reducible first | exact HB.out | apply below_alloc | apply pw_below_drewN | apply below_drew1) | exact HB.out)) hb); clear HO290; clear HB; have HO290 := n0_; have HO302 := n1_; have HB := n2_; clear n0_ n1_ n2_; clear hb ho28; obtain ⟨Ao29, co29, eo29⟩ := Kd.R_slice HO302.out; subst eo29) | (go_at_call 65; (with_reducible refine (covenantlaw05_says.calls k (⟨#[40, 39, 40, 39, 44, 32, 39, 41, 39, 41]⟩ : ByteArray) _ _ y300 true _ ?side1 ?side2 A11.out ?sideG).mono ?_); (case sideG => exact GW.keep HG.out (by repeat (first | (with_reducible first | exact HB.out | apply below_alloc | apply pw_below_drewN | apply below_drew1 | refine below_set ?_ GE324.out) | exact HB.out))); (case side1 => repeat (first | exact (Kd.R_reads' HO302.out).2.2 | (with_reducible refine Kd.C_alloc ?_ _) | (with_reducible refine Kd.C_drewN ?_ _) | (with_reducible refine Kd.C_drew ?_))); (case side2 => exact (Kd.R_reads' HO302.out).2.1); rintro e w30 ⟨rfl, hb⟩; have n0_ := Aside0.mk (Kd.R_below (by (with_reducible repeat (first | apply Kd.R_alloc | apply Kd.R_drewN | apply Kd.R_drew)); exact HO290.out) hb); have n1_ := Aside0.mk (Kd.R_below (by (with_reducible repeat (first | apply Kd.R_alloc | apply Kd.R_drewN | apply Kd.R_drew)); exact HO302.out) hb); have n2_ := Aside0.mk (below_step (by repeat (first | (with_reducible first | exact HB.out | apply below_alloc | apply pw_below_drewN | apply below_drew1) | exact HB.out)) hb); clear HO290; clear HO302; clear HB; have HO290 := n0_; have HO302 := n1_; have HB := n2_; clear n0_ n1_ n2_; (try clear hb); (try clear hb2); (try clear hk); (try clear hi)) | ((with_reducible refine gate_dst (N := 29) rfl ?_); (try (refine gate_guard (by rfl) ?_; dsimp only)); refine Kd.R_lit k23 _ 23 ?hg (N := 29) ?hd (xs := ([(⟨4, 1, 2, (⟨#[]⟩ : ByteArray)⟩ : S23), (⟨2, 1, 0, (⟨#[]⟩ : ByteArray)⟩ : S23)] : List (S23))) (inner := [.int .u8 4, .int .i64 1, .int .i64 2, .string (⟨#[]⟩ : ByteArray), .int .u8 2, .int .i64 1, .int .i64 0, .string (⟨#[]⟩ : ByteArray)]) (ok := fun _ => True) (okp := fun _ => True) ?hr ?hp (fun _ hk => hk) trivial (Below.refl _ _) (Nat.le_refl _) (by simp) ?_; (case hd => rfl); (case hg => rfl); (case hr => first | (go_simp; done) | (go_simp; rfl)); (case hp => exact (Reps.c4 (show Kd.M k23 _ _ _ (⟨4, 1, 2, (⟨#[]⟩ : ByteArray)⟩ : S23) [.int .u8 4, .int .i64 1, .int .i64 2, .string (⟨#[]⟩ : ByteArray)] from (k23_mkM _ _ _ (⟨4, 1, 2, (⟨#[]⟩ : ByteArray)⟩ : S23) )) (Reps.c4 (show Kd.M k23 _ _ _ (⟨2, 1, 0, (⟨#[]⟩ : ByteArray)⟩ : S23) [.int .u8 2, .int .i64 1, .int .i64 0, .string (⟨#[]⟩ : ByteArray)] from (k23_mkM _ _ _ (⟨2, 1, 0, (⟨#[]⟩ : ByteArray)⟩ : S23) )) (Reps.none _ _)))); intro v305 w31 ho32 hb hg_ hnew_; clear hg_ hnew_; (first | rw [← Ny304.out] at ho32 | (simp only [Int.reduceToNat] at ho32; rw [← Ny304.out] at ho32)); have n0_ := Aside0.mk (Kd.R_elder' (by (with_reducible repeat (first | apply Kd.R_alloc | apply Kd.R_drewN | apply Kd.R_drew)); exact HO290.out) (Kd.R_base ho32) hb); have n1_ := Aside0.mk (Kd.R_elder' (by (with_reducible repeat (first | apply Kd.R_alloc | apply Kd.R_drewN | apply Kd.R_drew)); exact HO302.out) (Kd.R_base ho32) hb); have n2_ := Aside0.mk (Kd.R_lower (Kd.R_new' (Kd.R_new' ho32 (Kd.R_lt (by (with_reducible repeat (first | apply Kd.R_alloc | apply Kd.R_drewN | apply Kd.R_drew)); exact HO290.out))) (Kd.R_lt (by (with_reducible repeat (first | apply Kd.R_alloc | apply Kd.R_drewN | apply Kd.R_drew)); exact HO302.out))) (below_size (by repeat (first | (with_reducible first | exact HB.out | apply below_alloc | apply pw_below_drewN | apply below_drew1) | exact HB.out)))); have n3_ := Aside0.mk (below_step (by repeat (first | (with_reducible first | exact HB.out | apply below_alloc | apply pw_below_drewN | apply below_drew1) | exact HB.out)) hb); clear HO290; clear HO302; clear HB; have HO290 := n0_; have HO302 := n1_; have HO306 := n2_; have HB := n3_; clear n0_ n1_ n2_ n3_; clear hb ho32; obtain ⟨Ao33, co33, eo33⟩ := Kd.R_slice HO306.out; subst eo33) | (go_at_call 65; (with_reducible refine (covenantlaw05_says.calls k (⟨#[40, 91, 49, 44, 50, 41, 44, 32, 121, 101, 115, 41]⟩ : ByteArray) _ _ y304 true _ ?side1 ?side2 A13.out ?sideG).mono ?_); (case sideG => exact GW.keep HG.out (by repeat (first | (with_reducible first | exact HB.out | apply below_alloc | apply pw_below_drewN | apply below_drew1 | refine below_set ?_ GE324.out) | exact HB.out))); (case side1 => repeat (first | exact (Kd.R_reads' HO306.out).2.2 | (with_reducible refine Kd.C_alloc ?_ _) | (with_reducible refine Kd.C_drewN ?_ _) | (with_reducible refine Kd.C_drew ?_))); (case side2 => exact (Kd.R_reads' HO306.out).2.1); rintro e w34 ⟨rfl, hb⟩; have n0_ := Aside0.mk (Kd.R_below (by (with_reducible repeat (first | apply Kd.R_alloc | apply Kd.R_drewN | apply Kd.R_drew)); exact HO290.out) hb); have n1_ := Aside0.mk (Kd.R_below (by (with_reducible repeat (first | apply Kd.R_alloc | apply Kd.R_drewN | apply Kd.R_drew)); exact HO302.out) hb); have n2_ := Aside0.mk (Kd.R_below (by (with_reducible repeat (first | apply Kd.R_alloc | apply Kd.R_drewN | apply Kd.R_drew)); exact HO306.out) hb); have n3_ := Aside0.mk (below_step (by repeat (first | (with_reducible first | exact HB.out | apply below_alloc | apply pw_below_drewN | apply below_drew1) | exact HB.out)) hb); clear HO290; clear HO302; clear HO306; clear HB; have HO290 := n0_; have HO302 := n1_; have HO306 := n2_; have HB := n3_; clear n0_ n1_ n2_ n3_; (try clear hb); (try clear hb2); (try clear hk); (try clear hi)) | (go_at_call 66; (with_reducible refine (covenantlaw05_text.calls (⟨#[]⟩ : ByteArray) t308 t309 t310 t311 _ A15.out).mono ?_); rintro e w35 ⟨rfl, hb⟩; have n0_ := Aside0.mk (Kd.R_below (by (with_reducible repeat (first | apply Kd.R_alloc | apply Kd.R_drewN | apply Kd.R_drew)); exact HO290.out) hb); have n1_ := Aside0.mk (Kd.R_below (by (with_reducible repeat (first | apply Kd.R_alloc | apply Kd.R_drewN | apply Kd.R_drew)); exact HO302.out) hb); have n2_ := Aside0.mk (Kd.R_below (by (with_reducible repeat (first | apply Kd.R_alloc | apply Kd.R_drewN | apply Kd.R_drew)); exact HO306.out) hb); have n3_ := Aside0.mk (below_step (by repeat (first | (with_reducible first | exact HB.out | apply below_alloc | apply pw_below_drewN | apply below_drew1) | exact HB.out)) hb); clear HO290; clear HO302; clear HO306; clear HB; have HO290 := n0_; have HO302 := n1_; have HO306 := n2_; have HB := n3_; clear n0_ n1_ n2_ n3_; (try clear hb); (try clear hb2); (try clear hk); (try clear hi)) | ((with_reducible refine gate_dst (N := 35) rfl ?_); (try (refine gate_guard (by rfl) ?_; dsimp only)); refine Kd.R_lit k23 _ 23 ?hg (N := 35) ?hd (xs := ([(⟨t308, t309, t310, t311⟩ : S23)] : List (S23))) (inner := [.int .u8 t308, .int .i64 t309, .int .i64 t310, .string t311]) (ok := fun _ => True) (okp := fun _ => True) ?hr ?hp (fun _ hk => hk) trivial (Below.refl _ _) (Nat.le_refl _) (by simp) ?_; (case hd => rfl); (case hg => rfl); (case hr => first | (go_simp; done) | (go_simp; rfl)); (case hp => exact (Reps.c4 (show Kd.M k23 _ _ _ (⟨t308, t309, t310, t311⟩ : S23) [.int .u8 t308, .int .i64 t309, .int .i64 t310, .string t311] from (k23_mkM _ _ _ (⟨t308, t309, t310, t311⟩ : S23) )) (Reps.none _ _))); intro v313 w36 ho37 hb hg_ hnew_; clear hg_ hnew_; (first | rw [← Ny312.out] at ho37 | (simp only [Int.reduceToNat] at ho37; rw [← Ny312.out] at ho37)); have n0_ := Aside0.mk (Kd.R_elder' (by (with_reducible repeat (first | apply Kd.R_alloc | apply Kd.R_drewN | apply Kd.R_drew)); exact HO290.out) (Kd.R_base ho37) hb); have n1_ := Aside0.mk (Kd.R_elder' (by (with_reducible repeat (first | apply Kd.R_alloc | apply Kd.R_drewN | apply Kd.R_drew)); exact HO302.out) (Kd.R_base ho37) hb); have n2_ := Aside0.mk (Kd.R_elder' (by (with_reducible repeat (first | apply Kd.R_alloc | apply Kd.R_drewN | apply Kd.R_drew)); exact HO306.out) (Kd.R_base ho37) hb); have n3_ := Aside0.mk (Kd.R_lower (Kd.R_new' (Kd.R_new' (Kd.R_new' ho37 (Kd.R_lt (by (with_reducible repeat (first | apply Kd.R_alloc | apply Kd.R_drewN | apply Kd.R_drew)); exact HO290.out))) (Kd.R_lt (by (with_reducible repeat (first | apply Kd.R_alloc | apply Kd.R_drewN | apply Kd.R_drew)); exact HO302.out))) (Kd.R_lt (by (with_reducible repeat (first | apply Kd.R_alloc | apply Kd.R_drewN | apply Kd.R_drew)); exact HO306.out))) (below_size (by repeat (first | (with_reducible first | exact HB.out | apply below_alloc | apply pw_below_drewN | apply below_drew1) | exact HB.out)))); have n4_ := Aside0.mk (below_step (by repeat (first | (with_reducible first | exact HB.out | apply below_alloc | apply pw_below_drewN | apply below_drew1) | exact HB.out)) hb); clear HO290; clear HO302; clear HO306; clear HB; have HO290 := n0_; have HO302 := n1_; have HO306 := n2_; have HO314 := n3_; have HB := n4_; clear n0_ n1_ n2_ n3_ n4_; clear hb ho37; obtain ⟨Ao38, co38, eo38⟩ := Kd.R_slice HO314.out; subst eo38) | (go_at_call 65; (with_reducible refine (covenantlaw05_says.calls k (⟨#[40, 39, 39, 41]⟩ : ByteArray) _ _ y312 t315 _ ?side1 ?side2 A16.out ?sideG).mono ?_); (case sideG => exact GW.keep HG.out (by repeat (first | (with_reducible first | exact HB.out | apply below_alloc | apply pw_below_drewN | apply below_drew1 | refine below_set ?_ GE324.out) | exact HB.out))); (case side1 => repeat (first | exact (Kd.R_reads' HO314.out).2.2 | (with_reducible refine Kd.C_alloc ?_ _) | (with_reducible refine Kd.C_drewN ?_ _) | (with_reducible refine Kd.C_drew ?_))); (case side2 => exact (Kd.R_reads' HO314.out).2.1); rintro e w39 ⟨rfl, hb⟩; have n0_ := Aside0.mk (Kd.R_below (by (with_reducible repeat (first | apply Kd.R_alloc | apply Kd.R_drewN | apply Kd.R_drew)); exact HO290.out) hb); have n1_ := Aside0.mk (Kd.R_below (by (with_reducible repeat (first | apply Kd.R_alloc | apply Kd.R_drewN | apply Kd.R_drew)); exact HO302.out) hb); have n2_ := Aside0.mk (Kd.R_below (by (with_reducible repeat (first | apply Kd.R_alloc | apply Kd.R_drewN | apply Kd.R_drew)); exact HO306.out) hb); have n3_ := Aside0.mk (Kd.R_below (by (with_reducible repeat (first | apply Kd.R_alloc | apply Kd.R_drewN | apply Kd.R_drew)); exact HO314.out) hb); have n4_ := Aside0.mk (below_step (by repeat (first | (with_reducible first | exact HB.out | apply below_alloc | apply pw_below_drewN | apply below_drew1) | exact HB.out)) hb); clear HO290; clear HO302; clear HO306; clear HO314; clear HB; have HO290 := n0_; have HO302 := n1_; have HO306 := n2_; have HO314 := n3_; have HB := n4_; clear n0_ n1_ n2_ n3_ n4_; (try clear hb); (try clear hb2); (try clear hk); (try clear hi)))
            go_meet
            case rel => exact ⟨_, (!t315), (by first | rfl | (simp; done) | (simp [*]; done)), H', ⟨by first | omega | exact Nat.le_refl _⟩, ⟨by repeat (first | (with_reducible first | exact HB.out | apply below_alloc | apply pw_below_drewN | apply below_drew1) | exact HB.out)⟩⟩
          · replace c14 := Bool.eq_false_iff.mpr c14
            subst c14
            have H1 : (rNames.j0 k true) = some r := by rw [if_neg (show ¬ (false = true) by decide)] at H; exact H
            clear H
            have H := H1
            clear H1
            exact absurd (H.trans (congrArg some HR9.out)) (rNames.j0_ne _)
        · replace c12 := Bool.eq_false_iff.mpr c12
          subst c12
          have H1 : (rNames.j0 k true) = some r := by rw [if_neg (show ¬ (false = true) by decide)] at H; exact H
          clear H
          have H := H1
          clear H1
          exact absurd (H.trans (congrArg some HR9.out)) (rNames.j0_ne _)
      · replace c8 := Bool.eq_false_iff.mpr c8
        subst c8
        have H1 : (rNames.j0 k true) = some r := by rw [if_neg (show ¬ (false = true) by decide)] at H; exact H
        clear H
        have H := H1
        clear H1
        exact absurd (H.trans (congrArg some HR9.out)) (rNames.j0_ne _)
    · replace c3 := Bool.eq_false_iff.mpr c3
      subst c3
      have H1 : (rNames.j0 k true) = some r := by rw [if_neg (show ¬ (false = true) by decide)] at H; exact H
      clear H
      have H := H1
      clear H1
      exact absurd (H.trans (congrArg some HR9.out)) (rNames.j0_ne _)
  case rest =>
    clear HC1
    try clear c1
    try clear p2
    try clear c3
    try clear c4
    try clear c6
    try clear c8
    try clear c12
    try clear c14
    try clear c19
    try clear c64
    obtain ⟨kq, x38_0, rfl, HA, HJ0, HB⟩ := hcut
    cases kq with
    | zero => exact absurd HA.out (by simp [rNames.j0])
    | succ kj0 =>
      have H := HA.out
      clear HA
      simp only [rNames.j0] at H
      by_cases c81 : x38_0 = true
      · subst c81
        have H1 : (some false) = some r := by rw [if_pos rfl] at H; exact H
        clear H
        have H := H1
        clear H1
        exact absurd (H.trans (congrArg some HR9.out)) (by simp)
      · replace c81 := Bool.eq_false_iff.mpr c81
        subst c81
        have H1 : ((some (([(⟨#[]⟩ : ByteArray), (⟨#[40]⟩ : ByteArray), (⟨#[41]⟩ : ByteArray), (⟨#[40, 49]⟩ : ByteArray), (⟨#[49, 41]⟩ : ByteArray), (⟨#[40, 49, 41, 40, 50, 41]⟩ : ByteArray), (⟨#[40, 32, 49, 41]⟩ : ByteArray), (⟨#[40, 49, 32, 41]⟩ : ByteArray), (⟨#[40, 49, 44, 32, 50, 44, 41]⟩ : ByteArray), (⟨#[40, 44, 32, 41]⟩ : ByteArray), (⟨#[40, 49, 44, 32, 32, 50, 41]⟩ : ByteArray), (⟨#[40, 49, 59, 32, 50, 41]⟩ : ByteArray), (⟨#[40, 39, 97, 41]⟩ : ByteArray), (⟨#[40, 39, 97, 39, 44, 32, 41]⟩ : ByteArray), (⟨#[91, 49, 44, 32, 50, 41]⟩ : ByteArray), (⟨#[40, 40, 41, 41]⟩ : ByteArray), (⟨#[40, 49, 41, 120]⟩ : ByteArray)] : List ByteArray) : List ByteArray)).bind fun y316 => (rNames.l0 kj0 y316 (y316.length : Int) 0)) = some r := by rw [if_neg (show ¬ (false = true) by decide)] at H; exact H
        clear H
        have H := H1
        clear H1
        obtain ⟨y316, hy316⟩ : ∃ y_ : List ByteArray, y_ = (([(⟨#[]⟩ : ByteArray), (⟨#[40]⟩ : ByteArray), (⟨#[41]⟩ : ByteArray), (⟨#[40, 49]⟩ : ByteArray), (⟨#[49, 41]⟩ : ByteArray), (⟨#[40, 49, 41, 40, 50, 41]⟩ : ByteArray), (⟨#[40, 32, 49, 41]⟩ : ByteArray), (⟨#[40, 49, 32, 41]⟩ : ByteArray), (⟨#[40, 49, 44, 32, 50, 44, 41]⟩ : ByteArray), (⟨#[40, 44, 32, 41]⟩ : ByteArray), (⟨#[40, 49, 44, 32, 32, 50, 41]⟩ : ByteArray), (⟨#[40, 49, 59, 32, 50, 41]⟩ : ByteArray), (⟨#[40, 39, 97, 41]⟩ : ByteArray), (⟨#[40, 39, 97, 39, 44, 32, 41]⟩ : ByteArray), (⟨#[91, 49, 44, 32, 50, 41]⟩ : ByteArray), (⟨#[40, 40, 41, 41]⟩ : ByteArray), (⟨#[40, 49, 41, 120]⟩ : ByteArray)] : List ByteArray)) := ⟨_, rfl⟩
        replace H : (rNames.l0 kj0 y316 (y316.length : Int) 0) = some r := by first | (rw [hy316]; with_reducible exact H) | (have H2_ := (Option.bind_some _ _).symm.trans H; rw [hy316]; with_reducible exact H2_) | (have H2_ := (Option.bind_some _ _).symm.trans H; with_reducible exact H2_) | with_reducible exact H | (rw [hy316]; exact H) | exact H
        have Ny316 := Aside0.mk hy316
        clear hy316
        have H' := Aside0.mk H
        clear H
        go_wp2_with (first | ((with_reducible refine gate_dst (N := 39) rfl ?_); (try (refine gate_guard (by rfl) ?_; dsimp only)); refine Kd.R_lit Kd.string _ 9 ?hg (N := 39) ?hd (xs := ([(⟨#[]⟩ : ByteArray), (⟨#[40]⟩ : ByteArray), (⟨#[41]⟩ : ByteArray), (⟨#[40, 49]⟩ : ByteArray), (⟨#[49, 41]⟩ : ByteArray), (⟨#[40, 49, 41, 40, 50, 41]⟩ : ByteArray), (⟨#[40, 32, 49, 41]⟩ : ByteArray), (⟨#[40, 49, 32, 41]⟩ : ByteArray), (⟨#[40, 49, 44, 32, 50, 44, 41]⟩ : ByteArray), (⟨#[40, 44, 32, 41]⟩ : ByteArray), (⟨#[40, 49, 44, 32, 32, 50, 41]⟩ : ByteArray), (⟨#[40, 49, 59, 32, 50, 41]⟩ : ByteArray), (⟨#[40, 39, 97, 41]⟩ : ByteArray), (⟨#[40, 39, 97, 39, 44, 32, 41]⟩ : ByteArray), (⟨#[91, 49, 44, 32, 50, 41]⟩ : ByteArray), (⟨#[40, 40, 41, 41]⟩ : ByteArray), (⟨#[40, 49, 41, 120]⟩ : ByteArray)] : List ByteArray)) (inner := [.string (⟨#[]⟩ : ByteArray), .string (⟨#[40]⟩ : ByteArray), .string (⟨#[41]⟩ : ByteArray), .string (⟨#[40, 49]⟩ : ByteArray), .string (⟨#[49, 41]⟩ : ByteArray), .string (⟨#[40, 49, 41, 40, 50, 41]⟩ : ByteArray), .string (⟨#[40, 32, 49, 41]⟩ : ByteArray), .string (⟨#[40, 49, 32, 41]⟩ : ByteArray), .string (⟨#[40, 49, 44, 32, 50, 44, 41]⟩ : ByteArray), .string (⟨#[40, 44, 32, 41]⟩ : ByteArray), .string (⟨#[40, 49, 44, 32, 32, 50, 41]⟩ : ByteArray), .string (⟨#[40, 49, 59, 32, 50, 41]⟩ : ByteArray), .string (⟨#[40, 39, 97, 41]⟩ : ByteArray), .string (⟨#[40, 39, 97, 39, 44, 32, 41]⟩ : ByteArray), .string (⟨#[91, 49, 44, 32, 50, 41]⟩ : ByteArray), .string (⟨#[40, 40, 41, 41]⟩ : ByteArray), .string (⟨#[40, 49, 41, 120]⟩ : ByteArray)]) (ok := fun _ => True) (okp := fun _ => True) ?hr ?hp (fun _ hk => hk) trivial (Below.refl _ _) (Nat.le_refl _) (by simp) ?_; (case hd => rfl); (case hg => rfl); (case hr => first | (go_simp; done) | (go_simp; rfl)); (case hp => exact (Reps.one (show Kd.M Kd.string _ _ _ (⟨#[]⟩ : ByteArray) [.string (⟨#[]⟩ : ByteArray)] from rfl) (Reps.one (show Kd.M Kd.string _ _ _ (⟨#[40]⟩ : ByteArray) [.string (⟨#[40]⟩ : ByteArray)] from rfl) (Reps.one (show Kd.M Kd.string _ _ _ (⟨#[41]⟩ : ByteArray) [.string (⟨#[41]⟩ : ByteArray)] from rfl) (Reps.one (show Kd.M Kd.string _ _ _ (⟨#[40, 49]⟩ : ByteArray) [.string (⟨#[40, 49]⟩ : ByteArray)] from rfl) (Reps.one (show Kd.M Kd.string _ _ _ (⟨#[49, 41]⟩ : ByteArray) [.string (⟨#[49, 41]⟩ : ByteArray)] from rfl) (Reps.one (show Kd.M Kd.string _ _ _ (⟨#[40, 49, 41, 40, 50, 41]⟩ : ByteArray) [.string (⟨#[40, 49, 41, 40, 50, 41]⟩ : ByteArray)] from rfl) (Reps.one (show Kd.M Kd.string _ _ _ (⟨#[40, 32, 49, 41]⟩ : ByteArray) [.string (⟨#[40, 32, 49, 41]⟩ : ByteArray)] from rfl) (Reps.one (show Kd.M Kd.string _ _ _ (⟨#[40, 49, 32, 41]⟩ : ByteArray) [.string (⟨#[40, 49, 32, 41]⟩ : ByteArray)] from rfl) (Reps.one (show Kd.M Kd.string _ _ _ (⟨#[40, 49, 44, 32, 50, 44, 41]⟩ : ByteArray) [.string (⟨#[40, 49, 44, 32, 50, 44, 41]⟩ : ByteArray)] from rfl) (Reps.one (show Kd.M Kd.string _ _ _ (⟨#[40, 44, 32, 41]⟩ : ByteArray) [.string (⟨#[40, 44, 32, 41]⟩ : ByteArray)] from rfl) (Reps.one (show Kd.M Kd.string _ _ _ (⟨#[40, 49, 44, 32, 32, 50, 41]⟩ : ByteArray) [.string (⟨#[40, 49, 44, 32, 32, 50, 41]⟩ : ByteArray)] from rfl) (Reps.one (show Kd.M Kd.string _ _ _ (⟨#[40, 49, 59, 32, 50, 41]⟩ : ByteArray) [.string (⟨#[40, 49, 59, 32, 50, 41]⟩ : ByteArray)] from rfl) (Reps.one (show Kd.M Kd.string _ _ _ (⟨#[40, 39, 97, 41]⟩ : ByteArray) [.string (⟨#[40, 39, 97, 41]⟩ : ByteArray)] from rfl) (Reps.one (show Kd.M Kd.string _ _ _ (⟨#[40, 39, 97, 39, 44, 32, 41]⟩ : ByteArray) [.string (⟨#[40, 39, 97, 39, 44, 32, 41]⟩ : ByteArray)] from rfl) (Reps.one (show Kd.M Kd.string _ _ _ (⟨#[91, 49, 44, 32, 50, 41]⟩ : ByteArray) [.string (⟨#[91, 49, 44, 32, 50, 41]⟩ : ByteArray)] from rfl) (Reps.one (show Kd.M Kd.string _ _ _ (⟨#[40, 40, 41, 41]⟩ : ByteArray) [.string (⟨#[40, 40, 41, 41]⟩ : ByteArray)] from rfl) (Reps.one (show Kd.M Kd.string _ _ _ (⟨#[40, 49, 41, 120]⟩ : ByteArray) [.string (⟨#[40, 49, 41, 120]⟩ : ByteArray)] from rfl) (Reps.none _ _))))))))))))))))))); intro v317 w82 ho83 hb hg_ hnew_; clear hg_ hnew_; (first | rw [← Ny316.out] at ho83 | (simp only [Int.reduceToNat] at ho83; rw [← Ny316.out] at ho83)); have n0_ := Aside0.mk (Kd.R_lower ho83 (below_size (by repeat (first | (with_reducible first | exact HB.out | apply below_alloc | apply pw_below_drewN | apply below_drew1) | exact HB.out)))); have n1_ := Aside0.mk (below_step (by repeat (first | (with_reducible first | exact HB.out | apply below_alloc | apply pw_below_drewN | apply below_drew1) | exact HB.out)) hb); clear HB; have HO318 := n0_; have HB := n1_; clear n0_ n1_; clear hb ho83; obtain ⟨Ao84, co84, eo84⟩ := Kd.R_slice HO318.out; subst eo84))
        go_loopg [41] kj0 (fun kq v41 w' => ∃ (x41_2 : Int), v41 = .int .i64 x41_2 ∧ Aside0 (rNames.l0 kq y316 (y316.length : Int) x41_2 = some r) ∧ Aside0 (kq ≤ kj0) ∧ Aside0 (Kd.R Kd.string 9 w' w.heap.size (fun _ => True) (.slice Ao84 y316.length co84) y316) ∧ Aside0 (Below w.heap.size w w'))
        case atStart => exact ⟨(0), (by first | rfl | (simp; done) | (simp [*]; done)), H', ⟨Nat.le_refl _⟩, ⟨by (with_reducible repeat (first | apply Kd.R_alloc | apply Kd.R_drewN | apply Kd.R_drew)); exact HO318.out⟩, ⟨by repeat (first | (with_reducible first | exact HB.out | apply below_alloc | apply pw_below_drewN | apply below_drew1) | exact HB.out)⟩⟩
        case round =>
          clear H'
          try clear c1
          try clear p2
          try clear c3
          try clear c4
          try clear c6
          try clear c8
          try clear c12
          try clear c14
          try clear c19
          try clear c64
          try clear c81
          try clear p2
          obtain ⟨x41_2, rfl, HA, HK2, HO_39, HB⟩ := hrel
          cases gk with
          | zero => exact absurd HA.out (by simp [rNames.l0])
          | succ k2 =>
            have H := HA.out
            clear HA
            simp only [rNames.l0] at H
            by_cases c85 : x41_2 < (y316.length : Int)
            · rw [if_pos c85] at H
              have c85b0 : decide (x41_2 < (y316.length : Int)) = true := decide_eq_true c85
              clear c85
              by_cases c86 : 0 ≤ x41_2
              · rw [if_pos c86] at H
                have c86b0 : decide (0 ≤ x41_2) = true := decide_eq_true c86
                clear c86
                by_cases c87 : x41_2 < (y316.length : Int)
                · rw [if_pos c87] at H
                  have c87b0 : decide (x41_2 < (y316.length : Int)) = true := decide_eq_true c87
                  clear c87
                  replace H := Option.bind_eq_some_iff.mp H
                  obtain ⟨t320, A880, H⟩ := H
                  replace H : (if t320 = true then (rNames.l0 k2 y316 (y316.length : Int) (wrap64 (x41_2 + 1))) else (some false)) = some r := H
                  have A88 := Aside0.mk A880
                  clear A880
                  by_cases c89 : t320 = true
                  · subst c89
                    have H1 : (rNames.l0 k2 y316 (y316.length : Int) (wrap64 (x41_2 + 1))) = some r := by rw [if_pos rfl] at H; exact H
                    clear H
                    have H := H1
                    clear H1
                    have H' := Aside0.mk H
                    clear H
                    have p319 : 0 ≤ (x41_2 : Int) := of_decide_eq_true (by first | (with_reducible assumption) | assumption)
                    have q319 : x41_2 < (y316.length : Int) := of_decide_eq_true (by first | (with_reducible assumption) | assumption)
                    obtain ⟨ad319, e319, hx319_0⟩ := Kd.at_string (Kd.R_reads' HO_39.out).2.2 x41_2 p319 q319
                    cases e319
                    replace p319 := eq_true p319
                    replace q319 := eq_true q319
                    go_wp2_with (first | ((with_reducible refine gate_callee (f := 68) rfl ?_); refine goesL_ (some 46) rfl rfl Tryd.func68 (by kernel_rfl) rfl #[.string (rdOf ByteArray.empty y316 x41_2)] rfl (by (try simp only [List.map_toArray, List.map_cons, List.map_nil]); first | done | rfl | (simp only [List.length_drop, List.length_take]; rfl)) ?_; (with_reducible refine (covenantlaw05_none.calls k2 (rdOf ByteArray.empty y316 x41_2) true _ A88.out ?sideG).mono ?_); (case sideG => exact GW.keep HG.out (by repeat (first | (with_reducible first | exact HB.out | apply below_alloc | apply pw_below_drewN | apply below_drew1 | refine below_set ?_ GE324.out) | exact HB.out))); rintro e w90 ⟨rfl, hb⟩; refine ⟨_, rfl, ?_⟩; have n0_ := Aside0.mk (Kd.R_below (by (with_reducible repeat (first | apply Kd.R_alloc | apply Kd.R_drewN | apply Kd.R_drew)); exact HO_39.out) hb); have n1_ := Aside0.mk (below_step (by repeat (first | (with_reducible first | exact HB.out | apply below_alloc | apply pw_below_drewN | apply below_drew1) | exact HB.out)) hb); clear HO_39; clear HB; have HO_39 := n0_; have HB := n1_; clear n0_ n1_; (try clear hb); (try clear hb2); (try clear hk); (try clear hi)))
                    go_roundg k2
                    case measure => have := HJ0.out; have := HK2.out; omega
                    case rel => exact ⟨(wrap64 (x41_2 + 1)), (by first | rfl | (simp; done) | (simp [*]; done)), H', ⟨by have := HJ0.out; have := HK2.out; omega⟩, ⟨by (with_reducible repeat (first | apply Kd.R_alloc | apply Kd.R_drewN | apply Kd.R_drew)); exact HO_39.out⟩, ⟨by repeat (first | (with_reducible first | exact HB.out | apply below_alloc | apply pw_below_drewN | apply below_drew1) | exact HB.out)⟩⟩
                  · replace c89 := Bool.eq_false_iff.mpr c89
                    subst c89
                    have H1 : (some false) = some r := by rw [if_neg (show ¬ (false = true) by decide)] at H; exact H
                    clear H
                    have H := H1
                    clear H1
                    exact absurd (H.trans (congrArg some HR9.out)) (by simp)
                · rw [if_neg c87] at H
                  exact absurd H (by simp)
              · rw [if_neg c86] at H
                exact absurd H (by simp)
            · rw [if_neg c85] at H
              have c85b0 : decide (x41_2 < (y316.length : Int)) = false := decide_eq_false c85
              clear c85
              obtain ⟨y321, hy321⟩ : ∃ y_ : List (S65), y_ = (([(⟨(⟨#[97]⟩ : ByteArray), 1, (⟨0, 0, 0, (⟨#[]⟩ : ByteArray)⟩ : S23)⟩ : S65), (⟨(⟨#[98]⟩ : ByteArray), 3, (⟨0, 0, 0, (⟨#[]⟩ : ByteArray)⟩ : S23)⟩ : S65)] : List (S65))) := ⟨_, rfl⟩
              replace H : ((covenantlaw05_number.f 1).bind fun bt325 => ((covenantlaw05_text.f (⟨#[]⟩ : ByteArray)).bind fun bt329 => ((row_Fits.f k2 (([(⟨bt325.1, bt325.2.1, bt325.2.2.1, bt325.2.2.2⟩ : S23), (⟨bt329.1, bt329.2.1, bt329.2.2.1, bt329.2.2.2⟩ : S23)] : List (S23))) y321).bind fun t336 => (if t336 = 0 then ((row_Fits.f k2 (([(⟨0, 0, 0, (⟨#[]⟩ : ByteArray)⟩ : S23), (⟨0, 0, 0, (⟨#[]⟩ : ByteArray)⟩ : S23)] : List (S23))) y321).bind fun t340 => (if t340 = 0 then ((covenantlaw05_number.f 1).bind fun bt341 => ((row_Fits.f k2 (([(⟨bt341.1, bt341.2.1, bt341.2.2.1, bt341.2.2.2⟩ : S23)] : List (S23))) y321).bind fun t348 => (if t348 = 4 then ((covenantlaw05_text.f (⟨#[97]⟩ : ByteArray)).bind fun bt349 => ((covenantlaw05_number.f 1).bind fun bt353 => ((row_Fits.f k2 (([(⟨bt349.1, bt349.2.1, bt349.2.2.1, bt349.2.2.2⟩ : S23), (⟨bt353.1, bt353.2.1, bt353.2.2.1, bt353.2.2.2⟩ : S23), (⟨0, 0, 0, (⟨#[]⟩ : ByteArray)⟩ : S23)] : List (S23))) y321).bind fun t360 => (if t360 = 4 then ((covenantlaw05_text.f (⟨#[]⟩ : ByteArray)).bind fun bt361 => ((covenantlaw05_number.f 1).bind fun bt365 => ((row_Fits.f k2 (([(⟨bt361.1, bt361.2.1, bt361.2.2.1, bt361.2.2.2⟩ : S23), (⟨bt365.1, bt365.2.1, bt365.2.2.1, bt365.2.2.2⟩ : S23)] : List (S23))) y321).bind fun t372 => (if t372 = 60 then ((covenantlaw05_text.f (⟨#[]⟩ : ByteArray)).bind fun bt373 => ((row_Fits.f k2 (([(⟨1, 0, 0, (⟨#[120]⟩ : ByteArray)⟩ : S23), (⟨bt373.1, bt373.2.1, bt373.2.2.1, bt373.2.2.2⟩ : S23)] : List (S23))) y321).bind fun t380 => (if t380 = 60 then ((row_Fits.f k2 ([] : List (S23)) ([] : List (S65))).bind fun t381 => (if t381 = 0 then ((covenantlaw05_number.f 1).bind fun bt382 => ((row_Text.f k2 (([(⟨bt382.1, bt382.2.1, bt382.2.2.1, bt382.2.2.2⟩ : S23), (⟨1, 0, 0, (⟨#[120]⟩ : ByteArray)⟩ : S23)] : List (S23)))).bind fun t389 => (some (t389.toList == ([] : List UInt8))))) else (some false))) else (some false)))) else (some false))))) else (some false))))) else (some false)))) else (some false))) else (some false))))) = some r := by first | (rw [hy321]; with_reducible exact H) | (have H2_ := (Option.bind_some _ _).symm.trans H; rw [hy321]; with_reducible exact H2_) | (have H2_ := (Option.bind_some _ _).symm.trans H; with_reducible exact H2_) | with_reducible exact H | (rw [hy321]; exact H) | exact H
              have Ny321 := Aside0.mk hy321
              clear hy321
              replace H := Option.bind_eq_some_iff.mp H
              obtain ⟨⟨t325, t326, t327, t328⟩, A920, H⟩ := H
              replace H : ((covenantlaw05_text.f (⟨#[]⟩ : ByteArray)).bind fun bt329 => ((row_Fits.f k2 (([(⟨t325, t326, t327, t328⟩ : S23), (⟨bt329.1, bt329.2.1, bt329.2.2.1, bt329.2.2.2⟩ : S23)] : List (S23))) y321).bind fun t336 => (if t336 = 0 then ((row_Fits.f k2 (([(⟨0, 0, 0, (⟨#[]⟩ : ByteArray)⟩ : S23), (⟨0, 0, 0, (⟨#[]⟩ : ByteArray)⟩ : S23)] : List (S23))) y321).bind fun t340 => (if t340 = 0 then ((covenantlaw05_number.f 1).bind fun bt341 => ((row_Fits.f k2 (([(⟨bt341.1, bt341.2.1, bt341.2.2.1, bt341.2.2.2⟩ : S23)] : List (S23))) y321).bind fun t348 => (if t348 = 4 then ((covenantlaw05_text.f (⟨#[97]⟩ : ByteArray)).bind fun bt349 => ((covenantlaw05_number.f 1).bind fun bt353 => ((row_Fits.f k2 (([(⟨bt349.1, bt349.2.1, bt349.2.2.1, bt349.2.2.2⟩ : S23), (⟨bt353.1, bt353.2.1, bt353.2.2.1, bt353.2.2.2⟩ : S23), (⟨0, 0, 0, (⟨#[]⟩ : ByteArray)⟩ : S23)] : List (S23))) y321).bind fun t360 => (if t360 = 4 then ((covenantlaw05_text.f (⟨#[]⟩ : ByteArray)).bind fun bt361 => ((covenantlaw05_number.f 1).bind fun bt365 => ((row_Fits.f k2 (([(⟨bt361.1, bt361.2.1, bt361.2.2.1, bt361.2.2.2⟩ : S23), (⟨bt365.1, bt365.2.1, bt365.2.2.1, bt365.2.2.2⟩ : S23)] : List (S23))) y321).bind fun t372 => (if t372 = 60 then ((covenantlaw05_text.f (⟨#[]⟩ : ByteArray)).bind fun bt373 => ((row_Fits.f k2 (([(⟨1, 0, 0, (⟨#[120]⟩ : ByteArray)⟩ : S23), (⟨bt373.1, bt373.2.1, bt373.2.2.1, bt373.2.2.2⟩ : S23)] : List (S23))) y321).bind fun t380 => (if t380 = 60 then ((row_Fits.f k2 ([] : List (S23)) ([] : List (S65))).bind fun t381 => (if t381 = 0 then ((covenantlaw05_number.f 1).bind fun bt382 => ((row_Text.f k2 (([(⟨bt382.1, bt382.2.1, bt382.2.2.1, bt382.2.2.2⟩ : S23), (⟨1, 0, 0, (⟨#[120]⟩ : ByteArray)⟩ : S23)] : List (S23)))).bind fun t389 => (some (t389.toList == ([] : List UInt8))))) else (some false))) else (some false)))) else (some false))))) else (some false))))) else (some false)))) else (some false))) else (some false)))) = some r := H
              have A92 := Aside0.mk A920
              clear A920
              replace H := Option.bind_eq_some_iff.mp H
              obtain ⟨⟨t329, t330, t331, t332⟩, A930, H⟩ := H
              replace H : ((row_Fits.f k2 (([(⟨t325, t326, t327, t328⟩ : S23), (⟨t329, t330, t331, t332⟩ : S23)] : List (S23))) y321).bind fun t336 => (if t336 = 0 then ((row_Fits.f k2 (([(⟨0, 0, 0, (⟨#[]⟩ : ByteArray)⟩ : S23), (⟨0, 0, 0, (⟨#[]⟩ : ByteArray)⟩ : S23)] : List (S23))) y321).bind fun t340 => (if t340 = 0 then ((covenantlaw05_number.f 1).bind fun bt341 => ((row_Fits.f k2 (([(⟨bt341.1, bt341.2.1, bt341.2.2.1, bt341.2.2.2⟩ : S23)] : List (S23))) y321).bind fun t348 => (if t348 = 4 then ((covenantlaw05_text.f (⟨#[97]⟩ : ByteArray)).bind fun bt349 => ((covenantlaw05_number.f 1).bind fun bt353 => ((row_Fits.f k2 (([(⟨bt349.1, bt349.2.1, bt349.2.2.1, bt349.2.2.2⟩ : S23), (⟨bt353.1, bt353.2.1, bt353.2.2.1, bt353.2.2.2⟩ : S23), (⟨0, 0, 0, (⟨#[]⟩ : ByteArray)⟩ : S23)] : List (S23))) y321).bind fun t360 => (if t360 = 4 then ((covenantlaw05_text.f (⟨#[]⟩ : ByteArray)).bind fun bt361 => ((covenantlaw05_number.f 1).bind fun bt365 => ((row_Fits.f k2 (([(⟨bt361.1, bt361.2.1, bt361.2.2.1, bt361.2.2.2⟩ : S23), (⟨bt365.1, bt365.2.1, bt365.2.2.1, bt365.2.2.2⟩ : S23)] : List (S23))) y321).bind fun t372 => (if t372 = 60 then ((covenantlaw05_text.f (⟨#[]⟩ : ByteArray)).bind fun bt373 => ((row_Fits.f k2 (([(⟨1, 0, 0, (⟨#[120]⟩ : ByteArray)⟩ : S23), (⟨bt373.1, bt373.2.1, bt373.2.2.1, bt373.2.2.2⟩ : S23)] : List (S23))) y321).bind fun t380 => (if t380 = 60 then ((row_Fits.f k2 ([] : List (S23)) ([] : List (S65))).bind fun t381 => (if t381 = 0 then ((covenantlaw05_number.f 1).bind fun bt382 => ((row_Text.f k2 (([(⟨bt382.1, bt382.2.1, bt382.2.2.1, bt382.2.2.2⟩ : S23), (⟨1, 0, 0, (⟨#[120]⟩ : ByteArray)⟩ : S23)] : List (S23)))).bind fun t389 => (some (t389.toList == ([] : List UInt8))))) else (some false))) else (some false)))) else (some false))))) else (some false))))) else (some false)))) else (some false))) else (some false))) = some r := H
              have A93 := Aside0.mk A930
              clear A930
              obtain ⟨y333, hy333⟩ : ∃ y_ : List (S23), y_ = (([(⟨t325, t326, t327, t328⟩ : S23), (⟨t329, t330, t331, t332⟩ : S23)] : List (S23))) := ⟨_, rfl⟩
              replace H : ((row_Fits.f k2 y333 y321).bind fun t336 => (if t336 = 0 then ((row_Fits.f k2 (([(⟨0, 0, 0, (⟨#[]⟩ : ByteArray)⟩ : S23), (⟨0, 0, 0, (⟨#[]⟩ : ByteArray)⟩ : S23)] : List (S23))) y321).bind fun t340 => (if t340 = 0 then ((covenantlaw05_number.f 1).bind fun bt341 => ((row_Fits.f k2 (([(⟨bt341.1, bt341.2.1, bt341.2.2.1, bt341.2.2.2⟩ : S23)] : List (S23))) y321).bind fun t348 => (if t348 = 4 then ((covenantlaw05_text.f (⟨#[97]⟩ : ByteArray)).bind fun bt349 => ((covenantlaw05_number.f 1).bind fun bt353 => ((row_Fits.f k2 (([(⟨bt349.1, bt349.2.1, bt349.2.2.1, bt349.2.2.2⟩ : S23), (⟨bt353.1, bt353.2.1, bt353.2.2.1, bt353.2.2.2⟩ : S23), (⟨0, 0, 0, (⟨#[]⟩ : ByteArray)⟩ : S23)] : List (S23))) y321).bind fun t360 => (if t360 = 4 then ((covenantlaw05_text.f (⟨#[]⟩ : ByteArray)).bind fun bt361 => ((covenantlaw05_number.f 1).bind fun bt365 => ((row_Fits.f k2 (([(⟨bt361.1, bt361.2.1, bt361.2.2.1, bt361.2.2.2⟩ : S23), (⟨bt365.1, bt365.2.1, bt365.2.2.1, bt365.2.2.2⟩ : S23)] : List (S23))) y321).bind fun t372 => (if t372 = 60 then ((covenantlaw05_text.f (⟨#[]⟩ : ByteArray)).bind fun bt373 => ((row_Fits.f k2 (([(⟨1, 0, 0, (⟨#[120]⟩ : ByteArray)⟩ : S23), (⟨bt373.1, bt373.2.1, bt373.2.2.1, bt373.2.2.2⟩ : S23)] : List (S23))) y321).bind fun t380 => (if t380 = 60 then ((row_Fits.f k2 ([] : List (S23)) ([] : List (S65))).bind fun t381 => (if t381 = 0 then ((covenantlaw05_number.f 1).bind fun bt382 => ((row_Text.f k2 (([(⟨bt382.1, bt382.2.1, bt382.2.2.1, bt382.2.2.2⟩ : S23), (⟨1, 0, 0, (⟨#[120]⟩ : ByteArray)⟩ : S23)] : List (S23)))).bind fun t389 => (some (t389.toList == ([] : List UInt8))))) else (some false))) else (some false)))) else (some false))))) else (some false))))) else (some false)))) else (some false))) else (some false))) = some r := by first | (rw [hy333]; with_reducible exact H) | (have H2_ := (Option.bind_some _ _).symm.trans H; rw [hy333]; with_reducible exact H2_) | (have H2_ := (Option.bind_some _ _).symm.trans H; with_reducible exact H2_) | with_reducible exact H | (rw [hy333]; exact H) | exact H
              have Ny333 := Aside0.mk hy333
              clear hy333
              replace H := Option.bind_eq_some_iff.mp H
              obtain ⟨t336, A940, H⟩ := H
              replace H : (if t336 = 0 then ((row_Fits.f k2 (([(⟨0, 0, 0, (⟨#[]⟩ : ByteArray)⟩ : S23), (⟨0, 0, 0, (⟨#[]⟩ : ByteArray)⟩ : S23)] : List (S23))) y321).bind fun t340 => (if t340 = 0 then ((covenantlaw05_number.f 1).bind fun bt341 => ((row_Fits.f k2 (([(⟨bt341.1, bt341.2.1, bt341.2.2.1, bt341.2.2.2⟩ : S23)] : List (S23))) y321).bind fun t348 => (if t348 = 4 then ((covenantlaw05_text.f (⟨#[97]⟩ : ByteArray)).bind fun bt349 => ((covenantlaw05_number.f 1).bind fun bt353 => ((row_Fits.f k2 (([(⟨bt349.1, bt349.2.1, bt349.2.2.1, bt349.2.2.2⟩ : S23), (⟨bt353.1, bt353.2.1, bt353.2.2.1, bt353.2.2.2⟩ : S23), (⟨0, 0, 0, (⟨#[]⟩ : ByteArray)⟩ : S23)] : List (S23))) y321).bind fun t360 => (if t360 = 4 then ((covenantlaw05_text.f (⟨#[]⟩ : ByteArray)).bind fun bt361 => ((covenantlaw05_number.f 1).bind fun bt365 => ((row_Fits.f k2 (([(⟨bt361.1, bt361.2.1, bt361.2.2.1, bt361.2.2.2⟩ : S23), (⟨bt365.1, bt365.2.1, bt365.2.2.1, bt365.2.2.2⟩ : S23)] : List (S23))) y321).bind fun t372 => (if t372 = 60 then ((covenantlaw05_text.f (⟨#[]⟩ : ByteArray)).bind fun bt373 => ((row_Fits.f k2 (([(⟨1, 0, 0, (⟨#[120]⟩ : ByteArray)⟩ : S23), (⟨bt373.1, bt373.2.1, bt373.2.2.1, bt373.2.2.2⟩ : S23)] : List (S23))) y321).bind fun t380 => (if t380 = 60 then ((row_Fits.f k2 ([] : List (S23)) ([] : List (S65))).bind fun t381 => (if t381 = 0 then ((covenantlaw05_number.f 1).bind fun bt382 => ((row_Text.f k2 (([(⟨bt382.1, bt382.2.1, bt382.2.2.1, bt382.2.2.2⟩ : S23), (⟨1, 0, 0, (⟨#[120]⟩ : ByteArray)⟩ : S23)] : List (S23)))).bind fun t389 => (some (t389.toList == ([] : List UInt8))))) else (some false))) else (some false)))) else (some false))))) else (some false))))) else (some false)))) else (some false))) else (some false)) = some r := H
              have A94 := Aside0.mk A940
              clear A940
              by_cases c95 : t336 = 0
              · rw [if_pos c95] at H
                have c95b0 : (t336 == 0) = true := beq_iff_eq.mpr c95
                have c95b1 : (t336 != 0) = false := bne_eq_false_iff_eq.mpr c95
                clear c95
                obtain ⟨y337, hy337⟩ : ∃ y_ : List (S23), y_ = (([(⟨0, 0, 0, (⟨#[]⟩ : ByteArray)⟩ : S23), (⟨0, 0, 0, (⟨#[]⟩ : ByteArray)⟩ : S23)] : List (S23))) := ⟨_, rfl⟩
                replace H : ((row_Fits.f k2 y337 y321).bind fun t340 => (if t340 = 0 then ((covenantlaw05_number.f 1).bind fun bt341 => ((row_Fits.f k2 (([(⟨bt341.1, bt341.2.1, bt341.2.2.1, bt341.2.2.2⟩ : S23)] : List (S23))) y321).bind fun t348 => (if t348 = 4 then ((covenantlaw05_text.f (⟨#[97]⟩ : ByteArray)).bind fun bt349 => ((covenantlaw05_number.f 1).bind fun bt353 => ((row_Fits.f k2 (([(⟨bt349.1, bt349.2.1, bt349.2.2.1, bt349.2.2.2⟩ : S23), (⟨bt353.1, bt353.2.1, bt353.2.2.1, bt353.2.2.2⟩ : S23), (⟨0, 0, 0, (⟨#[]⟩ : ByteArray)⟩ : S23)] : List (S23))) y321).bind fun t360 => (if t360 = 4 then ((covenantlaw05_text.f (⟨#[]⟩ : ByteArray)).bind fun bt361 => ((covenantlaw05_number.f 1).bind fun bt365 => ((row_Fits.f k2 (([(⟨bt361.1, bt361.2.1, bt361.2.2.1, bt361.2.2.2⟩ : S23), (⟨bt365.1, bt365.2.1, bt365.2.2.1, bt365.2.2.2⟩ : S23)] : List (S23))) y321).bind fun t372 => (if t372 = 60 then ((covenantlaw05_text.f (⟨#[]⟩ : ByteArray)).bind fun bt373 => ((row_Fits.f k2 (([(⟨1, 0, 0, (⟨#[120]⟩ : ByteArray)⟩ : S23), (⟨bt373.1, bt373.2.1, bt373.2.2.1, bt373.2.2.2⟩ : S23)] : List (S23))) y321).bind fun t380 => (if t380 = 60 then ((row_Fits.f k2 ([] : List (S23)) ([] : List (S65))).bind fun t381 => (if t381 = 0 then ((covenantlaw05_number.f 1).bind fun bt382 => ((row_Text.f k2 (([(⟨bt382.1, bt382.2.1, bt382.2.2.1, bt382.2.2.2⟩ : S23), (⟨1, 0, 0, (⟨#[120]⟩ : ByteArray)⟩ : S23)] : List (S23)))).bind fun t389 => (some (t389.toList == ([] : List UInt8))))) else (some false))) else (some false)))) else (some false))))) else (some false))))) else (some false)))) else (some false))) = some r := by first | (rw [hy337]; with_reducible exact H) | (have H2_ := (Option.bind_some _ _).symm.trans H; rw [hy337]; with_reducible exact H2_) | (have H2_ := (Option.bind_some _ _).symm.trans H; with_reducible exact H2_) | with_reducible exact H | (rw [hy337]; exact H) | exact H
                have Ny337 := Aside0.mk hy337
                clear hy337
                replace H := Option.bind_eq_some_iff.mp H
                obtain ⟨t340, A960, H⟩ := H
                replace H : (if t340 = 0 then ((covenantlaw05_number.f 1).bind fun bt341 => ((row_Fits.f k2 (([(⟨bt341.1, bt341.2.1, bt341.2.2.1, bt341.2.2.2⟩ : S23)] : List (S23))) y321).bind fun t348 => (if t348 = 4 then ((covenantlaw05_text.f (⟨#[97]⟩ : ByteArray)).bind fun bt349 => ((covenantlaw05_number.f 1).bind fun bt353 => ((row_Fits.f k2 (([(⟨bt349.1, bt349.2.1, bt349.2.2.1, bt349.2.2.2⟩ : S23), (⟨bt353.1, bt353.2.1, bt353.2.2.1, bt353.2.2.2⟩ : S23), (⟨0, 0, 0, (⟨#[]⟩ : ByteArray)⟩ : S23)] : List (S23))) y321).bind fun t360 => (if t360 = 4 then ((covenantlaw05_text.f (⟨#[]⟩ : ByteArray)).bind fun bt361 => ((covenantlaw05_number.f 1).bind fun bt365 => ((row_Fits.f k2 (([(⟨bt361.1, bt361.2.1, bt361.2.2.1, bt361.2.2.2⟩ : S23), (⟨bt365.1, bt365.2.1, bt365.2.2.1, bt365.2.2.2⟩ : S23)] : List (S23))) y321).bind fun t372 => (if t372 = 60 then ((covenantlaw05_text.f (⟨#[]⟩ : ByteArray)).bind fun bt373 => ((row_Fits.f k2 (([(⟨1, 0, 0, (⟨#[120]⟩ : ByteArray)⟩ : S23), (⟨bt373.1, bt373.2.1, bt373.2.2.1, bt373.2.2.2⟩ : S23)] : List (S23))) y321).bind fun t380 => (if t380 = 60 then ((row_Fits.f k2 ([] : List (S23)) ([] : List (S65))).bind fun t381 => (if t381 = 0 then ((covenantlaw05_number.f 1).bind fun bt382 => ((row_Text.f k2 (([(⟨bt382.1, bt382.2.1, bt382.2.2.1, bt382.2.2.2⟩ : S23), (⟨1, 0, 0, (⟨#[120]⟩ : ByteArray)⟩ : S23)] : List (S23)))).bind fun t389 => (some (t389.toList == ([] : List UInt8))))) else (some false))) else (some false)))) else (some false))))) else (some false))))) else (some false)))) else (some false)) = some r := H
                have A96 := Aside0.mk A960
                clear A960
                by_cases c97 : t340 = 0
                · rw [if_pos c97] at H
                  have c97b0 : (t340 == 0) = true := beq_iff_eq.mpr c97
                  have c97b1 : (t340 != 0) = false := bne_eq_false_iff_eq.mpr c97
                  clear c97
                  replace H := Option.bind_eq_some_iff.mp H
                  obtain ⟨⟨t341, t342, t343, t344⟩, A980, H⟩ := H
                  replace H : ((row_Fits.f k2 (([(⟨t341, t342, t343, t344⟩ : S23)] : List (S23))) y321).bind fun t348 => (if t348 = 4 then ((covenantlaw05_text.f (⟨#[97]⟩ : ByteArray)).bind fun bt349 => ((covenantlaw05_number.f 1).bind fun bt353 => ((row_Fits.f k2 (([(⟨bt349.1, bt349.2.1, bt349.2.2.1, bt349.2.2.2⟩ : S23), (⟨bt353.1, bt353.2.1, bt353.2.2.1, bt353.2.2.2⟩ : S23), (⟨0, 0, 0, (⟨#[]⟩ : ByteArray)⟩ : S23)] : List (S23))) y321).bind fun t360 => (if t360 = 4 then ((covenantlaw05_text.f (⟨#[]⟩ : ByteArray)).bind fun bt361 => ((covenantlaw05_number.f 1).bind fun bt365 => ((row_Fits.f k2 (([(⟨bt361.1, bt361.2.1, bt361.2.2.1, bt361.2.2.2⟩ : S23), (⟨bt365.1, bt365.2.1, bt365.2.2.1, bt365.2.2.2⟩ : S23)] : List (S23))) y321).bind fun t372 => (if t372 = 60 then ((covenantlaw05_text.f (⟨#[]⟩ : ByteArray)).bind fun bt373 => ((row_Fits.f k2 (([(⟨1, 0, 0, (⟨#[120]⟩ : ByteArray)⟩ : S23), (⟨bt373.1, bt373.2.1, bt373.2.2.1, bt373.2.2.2⟩ : S23)] : List (S23))) y321).bind fun t380 => (if t380 = 60 then ((row_Fits.f k2 ([] : List (S23)) ([] : List (S65))).bind fun t381 => (if t381 = 0 then ((covenantlaw05_number.f 1).bind fun bt382 => ((row_Text.f k2 (([(⟨bt382.1, bt382.2.1, bt382.2.2.1, bt382.2.2.2⟩ : S23), (⟨1, 0, 0, (⟨#[120]⟩ : ByteArray)⟩ : S23)] : List (S23)))).bind fun t389 => (some (t389.toList == ([] : List UInt8))))) else (some false))) else (some false)))) else (some false))))) else (some false))))) else (some false))) = some r := H
                  have A98 := Aside0.mk A980
                  clear A980
                  obtain ⟨y345, hy345⟩ : ∃ y_ : List (S23), y_ = (([(⟨t341, t342, t343, t344⟩ : S23)] : List (S23))) := ⟨_, rfl⟩
                  replace H : ((row_Fits.f k2 y345 y321).bind fun t348 => (if t348 = 4 then ((covenantlaw05_text.f (⟨#[97]⟩ : ByteArray)).bind fun bt349 => ((covenantlaw05_number.f 1).bind fun bt353 => ((row_Fits.f k2 (([(⟨bt349.1, bt349.2.1, bt349.2.2.1, bt349.2.2.2⟩ : S23), (⟨bt353.1, bt353.2.1, bt353.2.2.1, bt353.2.2.2⟩ : S23), (⟨0, 0, 0, (⟨#[]⟩ : ByteArray)⟩ : S23)] : List (S23))) y321).bind fun t360 => (if t360 = 4 then ((covenantlaw05_text.f (⟨#[]⟩ : ByteArray)).bind fun bt361 => ((covenantlaw05_number.f 1).bind fun bt365 => ((row_Fits.f k2 (([(⟨bt361.1, bt361.2.1, bt361.2.2.1, bt361.2.2.2⟩ : S23), (⟨bt365.1, bt365.2.1, bt365.2.2.1, bt365.2.2.2⟩ : S23)] : List (S23))) y321).bind fun t372 => (if t372 = 60 then ((covenantlaw05_text.f (⟨#[]⟩ : ByteArray)).bind fun bt373 => ((row_Fits.f k2 (([(⟨1, 0, 0, (⟨#[120]⟩ : ByteArray)⟩ : S23), (⟨bt373.1, bt373.2.1, bt373.2.2.1, bt373.2.2.2⟩ : S23)] : List (S23))) y321).bind fun t380 => (if t380 = 60 then ((row_Fits.f k2 ([] : List (S23)) ([] : List (S65))).bind fun t381 => (if t381 = 0 then ((covenantlaw05_number.f 1).bind fun bt382 => ((row_Text.f k2 (([(⟨bt382.1, bt382.2.1, bt382.2.2.1, bt382.2.2.2⟩ : S23), (⟨1, 0, 0, (⟨#[120]⟩ : ByteArray)⟩ : S23)] : List (S23)))).bind fun t389 => (some (t389.toList == ([] : List UInt8))))) else (some false))) else (some false)))) else (some false))))) else (some false))))) else (some false))) = some r := by first | (rw [hy345]; with_reducible exact H) | (have H2_ := (Option.bind_some _ _).symm.trans H; rw [hy345]; with_reducible exact H2_) | (have H2_ := (Option.bind_some _ _).symm.trans H; with_reducible exact H2_) | with_reducible exact H | (rw [hy345]; exact H) | exact H
                  have Ny345 := Aside0.mk hy345
                  clear hy345
                  replace H := Option.bind_eq_some_iff.mp H
                  obtain ⟨t348, A990, H⟩ := H
                  replace H : (if t348 = 4 then ((covenantlaw05_text.f (⟨#[97]⟩ : ByteArray)).bind fun bt349 => ((covenantlaw05_number.f 1).bind fun bt353 => ((row_Fits.f k2 (([(⟨bt349.1, bt349.2.1, bt349.2.2.1, bt349.2.2.2⟩ : S23), (⟨bt353.1, bt353.2.1, bt353.2.2.1, bt353.2.2.2⟩ : S23), (⟨0, 0, 0, (⟨#[]⟩ : ByteArray)⟩ : S23)] : List (S23))) y321).bind fun t360 => (if t360 = 4 then ((covenantlaw05_text.f (⟨#[]⟩ : ByteArray)).bind fun bt361 => ((covenantlaw05_number.f 1).bind fun bt365 => ((row_Fits.f k2 (([(⟨bt361.1, bt361.2.1, bt361.2.2.1, bt361.2.2.2⟩ : S23), (⟨bt365.1, bt365.2.1, bt365.2.2.1, bt365.2.2.2⟩ : S23)] : List (S23))) y321).bind fun t372 => (if t372 = 60 then ((covenantlaw05_text.f (⟨#[]⟩ : ByteArray)).bind fun bt373 => ((row_Fits.f k2 (([(⟨1, 0, 0, (⟨#[120]⟩ : ByteArray)⟩ : S23), (⟨bt373.1, bt373.2.1, bt373.2.2.1, bt373.2.2.2⟩ : S23)] : List (S23))) y321).bind fun t380 => (if t380 = 60 then ((row_Fits.f k2 ([] : List (S23)) ([] : List (S65))).bind fun t381 => (if t381 = 0 then ((covenantlaw05_number.f 1).bind fun bt382 => ((row_Text.f k2 (([(⟨bt382.1, bt382.2.1, bt382.2.2.1, bt382.2.2.2⟩ : S23), (⟨1, 0, 0, (⟨#[120]⟩ : ByteArray)⟩ : S23)] : List (S23)))).bind fun t389 => (some (t389.toList == ([] : List UInt8))))) else (some false))) else (some false)))) else (some false))))) else (some false))))) else (some false)) = some r := H
                  have A99 := Aside0.mk A990
                  clear A990
                  by_cases c100 : t348 = 4
                  · rw [if_pos c100] at H
                    have c100b0 : (t348 == 4) = true := beq_iff_eq.mpr c100
                    have c100b1 : (t348 != 4) = false := bne_eq_false_iff_eq.mpr c100
                    clear c100
                    replace H := Option.bind_eq_some_iff.mp H
                    obtain ⟨⟨t349, t350, t351, t352⟩, A1010, H⟩ := H
                    replace H : ((covenantlaw05_number.f 1).bind fun bt353 => ((row_Fits.f k2 (([(⟨t349, t350, t351, t352⟩ : S23), (⟨bt353.1, bt353.2.1, bt353.2.2.1, bt353.2.2.2⟩ : S23), (⟨0, 0, 0, (⟨#[]⟩ : ByteArray)⟩ : S23)] : List (S23))) y321).bind fun t360 => (if t360 = 4 then ((covenantlaw05_text.f (⟨#[]⟩ : ByteArray)).bind fun bt361 => ((covenantlaw05_number.f 1).bind fun bt365 => ((row_Fits.f k2 (([(⟨bt361.1, bt361.2.1, bt361.2.2.1, bt361.2.2.2⟩ : S23), (⟨bt365.1, bt365.2.1, bt365.2.2.1, bt365.2.2.2⟩ : S23)] : List (S23))) y321).bind fun t372 => (if t372 = 60 then ((covenantlaw05_text.f (⟨#[]⟩ : ByteArray)).bind fun bt373 => ((row_Fits.f k2 (([(⟨1, 0, 0, (⟨#[120]⟩ : ByteArray)⟩ : S23), (⟨bt373.1, bt373.2.1, bt373.2.2.1, bt373.2.2.2⟩ : S23)] : List (S23))) y321).bind fun t380 => (if t380 = 60 then ((row_Fits.f k2 ([] : List (S23)) ([] : List (S65))).bind fun t381 => (if t381 = 0 then ((covenantlaw05_number.f 1).bind fun bt382 => ((row_Text.f k2 (([(⟨bt382.1, bt382.2.1, bt382.2.2.1, bt382.2.2.2⟩ : S23), (⟨1, 0, 0, (⟨#[120]⟩ : ByteArray)⟩ : S23)] : List (S23)))).bind fun t389 => (some (t389.toList == ([] : List UInt8))))) else (some false))) else (some false)))) else (some false))))) else (some false)))) = some r := H
                    have A101 := Aside0.mk A1010
                    clear A1010
                    replace H := Option.bind_eq_some_iff.mp H
                    obtain ⟨⟨t353, t354, t355, t356⟩, A1020, H⟩ := H
                    replace H : ((row_Fits.f k2 (([(⟨t349, t350, t351, t352⟩ : S23), (⟨t353, t354, t355, t356⟩ : S23), (⟨0, 0, 0, (⟨#[]⟩ : ByteArray)⟩ : S23)] : List (S23))) y321).bind fun t360 => (if t360 = 4 then ((covenantlaw05_text.f (⟨#[]⟩ : ByteArray)).bind fun bt361 => ((covenantlaw05_number.f 1).bind fun bt365 => ((row_Fits.f k2 (([(⟨bt361.1, bt361.2.1, bt361.2.2.1, bt361.2.2.2⟩ : S23), (⟨bt365.1, bt365.2.1, bt365.2.2.1, bt365.2.2.2⟩ : S23)] : List (S23))) y321).bind fun t372 => (if t372 = 60 then ((covenantlaw05_text.f (⟨#[]⟩ : ByteArray)).bind fun bt373 => ((row_Fits.f k2 (([(⟨1, 0, 0, (⟨#[120]⟩ : ByteArray)⟩ : S23), (⟨bt373.1, bt373.2.1, bt373.2.2.1, bt373.2.2.2⟩ : S23)] : List (S23))) y321).bind fun t380 => (if t380 = 60 then ((row_Fits.f k2 ([] : List (S23)) ([] : List (S65))).bind fun t381 => (if t381 = 0 then ((covenantlaw05_number.f 1).bind fun bt382 => ((row_Text.f k2 (([(⟨bt382.1, bt382.2.1, bt382.2.2.1, bt382.2.2.2⟩ : S23), (⟨1, 0, 0, (⟨#[120]⟩ : ByteArray)⟩ : S23)] : List (S23)))).bind fun t389 => (some (t389.toList == ([] : List UInt8))))) else (some false))) else (some false)))) else (some false))))) else (some false))) = some r := H
                    have A102 := Aside0.mk A1020
                    clear A1020
                    obtain ⟨y357, hy357⟩ : ∃ y_ : List (S23), y_ = (([(⟨t349, t350, t351, t352⟩ : S23), (⟨t353, t354, t355, t356⟩ : S23), (⟨0, 0, 0, (⟨#[]⟩ : ByteArray)⟩ : S23)] : List (S23))) := ⟨_, rfl⟩
                    replace H : ((row_Fits.f k2 y357 y321).bind fun t360 => (if t360 = 4 then ((covenantlaw05_text.f (⟨#[]⟩ : ByteArray)).bind fun bt361 => ((covenantlaw05_number.f 1).bind fun bt365 => ((row_Fits.f k2 (([(⟨bt361.1, bt361.2.1, bt361.2.2.1, bt361.2.2.2⟩ : S23), (⟨bt365.1, bt365.2.1, bt365.2.2.1, bt365.2.2.2⟩ : S23)] : List (S23))) y321).bind fun t372 => (if t372 = 60 then ((covenantlaw05_text.f (⟨#[]⟩ : ByteArray)).bind fun bt373 => ((row_Fits.f k2 (([(⟨1, 0, 0, (⟨#[120]⟩ : ByteArray)⟩ : S23), (⟨bt373.1, bt373.2.1, bt373.2.2.1, bt373.2.2.2⟩ : S23)] : List (S23))) y321).bind fun t380 => (if t380 = 60 then ((row_Fits.f k2 ([] : List (S23)) ([] : List (S65))).bind fun t381 => (if t381 = 0 then ((covenantlaw05_number.f 1).bind fun bt382 => ((row_Text.f k2 (([(⟨bt382.1, bt382.2.1, bt382.2.2.1, bt382.2.2.2⟩ : S23), (⟨1, 0, 0, (⟨#[120]⟩ : ByteArray)⟩ : S23)] : List (S23)))).bind fun t389 => (some (t389.toList == ([] : List UInt8))))) else (some false))) else (some false)))) else (some false))))) else (some false))) = some r := by first | (rw [hy357]; with_reducible exact H) | (have H2_ := (Option.bind_some _ _).symm.trans H; rw [hy357]; with_reducible exact H2_) | (have H2_ := (Option.bind_some _ _).symm.trans H; with_reducible exact H2_) | with_reducible exact H | (rw [hy357]; exact H) | exact H
                    have Ny357 := Aside0.mk hy357
                    clear hy357
                    replace H := Option.bind_eq_some_iff.mp H
                    obtain ⟨t360, A1030, H⟩ := H
                    replace H : (if t360 = 4 then ((covenantlaw05_text.f (⟨#[]⟩ : ByteArray)).bind fun bt361 => ((covenantlaw05_number.f 1).bind fun bt365 => ((row_Fits.f k2 (([(⟨bt361.1, bt361.2.1, bt361.2.2.1, bt361.2.2.2⟩ : S23), (⟨bt365.1, bt365.2.1, bt365.2.2.1, bt365.2.2.2⟩ : S23)] : List (S23))) y321).bind fun t372 => (if t372 = 60 then ((covenantlaw05_text.f (⟨#[]⟩ : ByteArray)).bind fun bt373 => ((row_Fits.f k2 (([(⟨1, 0, 0, (⟨#[120]⟩ : ByteArray)⟩ : S23), (⟨bt373.1, bt373.2.1, bt373.2.2.1, bt373.2.2.2⟩ : S23)] : List (S23))) y321).bind fun t380 => (if t380 = 60 then ((row_Fits.f k2 ([] : List (S23)) ([] : List (S65))).bind fun t381 => (if t381 = 0 then ((covenantlaw05_number.f 1).bind fun bt382 => ((row_Text.f k2 (([(⟨bt382.1, bt382.2.1, bt382.2.2.1, bt382.2.2.2⟩ : S23), (⟨1, 0, 0, (⟨#[120]⟩ : ByteArray)⟩ : S23)] : List (S23)))).bind fun t389 => (some (t389.toList == ([] : List UInt8))))) else (some false))) else (some false)))) else (some false))))) else (some false)) = some r := H
                    have A103 := Aside0.mk A1030
                    clear A1030
                    by_cases c104 : t360 = 4
                    · rw [if_pos c104] at H
                      have c104b0 : (t360 == 4) = true := beq_iff_eq.mpr c104
                      have c104b1 : (t360 != 4) = false := bne_eq_false_iff_eq.mpr c104
                      clear c104
                      replace H := Option.bind_eq_some_iff.mp H
                      obtain ⟨⟨t361, t362, t363, t364⟩, A1050, H⟩ := H
                      replace H : ((covenantlaw05_number.f 1).bind fun bt365 => ((row_Fits.f k2 (([(⟨t361, t362, t363, t364⟩ : S23), (⟨bt365.1, bt365.2.1, bt365.2.2.1, bt365.2.2.2⟩ : S23)] : List (S23))) y321).bind fun t372 => (if t372 = 60 then ((covenantlaw05_text.f (⟨#[]⟩ : ByteArray)).bind fun bt373 => ((row_Fits.f k2 (([(⟨1, 0, 0, (⟨#[120]⟩ : ByteArray)⟩ : S23), (⟨bt373.1, bt373.2.1, bt373.2.2.1, bt373.2.2.2⟩ : S23)] : List (S23))) y321).bind fun t380 => (if t380 = 60 then ((row_Fits.f k2 ([] : List (S23)) ([] : List (S65))).bind fun t381 => (if t381 = 0 then ((covenantlaw05_number.f 1).bind fun bt382 => ((row_Text.f k2 (([(⟨bt382.1, bt382.2.1, bt382.2.2.1, bt382.2.2.2⟩ : S23), (⟨1, 0, 0, (⟨#[120]⟩ : ByteArray)⟩ : S23)] : List (S23)))).bind fun t389 => (some (t389.toList == ([] : List UInt8))))) else (some false))) else (some false)))) else (some false)))) = some r := H
                      have A105 := Aside0.mk A1050
                      clear A1050
                      replace H := Option.bind_eq_some_iff.mp H
                      obtain ⟨⟨t365, t366, t367, t368⟩, A1060, H⟩ := H
                      replace H : ((row_Fits.f k2 (([(⟨t361, t362, t363, t364⟩ : S23), (⟨t365, t366, t367, t368⟩ : S23)] : List (S23))) y321).bind fun t372 => (if t372 = 60 then ((covenantlaw05_text.f (⟨#[]⟩ : ByteArray)).bind fun bt373 => ((row_Fits.f k2 (([(⟨1, 0, 0, (⟨#[120]⟩ : ByteArray)⟩ : S23), (⟨bt373.1, bt373.2.1, bt373.2.2.1, bt373.2.2.2⟩ : S23)] : List (S23))) y321).bind fun t380 => (if t380 = 60 then ((row_Fits.f k2 ([] : List (S23)) ([] : List (S65))).bind fun t381 => (if t381 = 0 then ((covenantlaw05_number.f 1).bind fun bt382 => ((row_Text.f k2 (([(⟨bt382.1, bt382.2.1, bt382.2.2.1, bt382.2.2.2⟩ : S23), (⟨1, 0, 0, (⟨#[120]⟩ : ByteArray)⟩ : S23)] : List (S23)))).bind fun t389 => (some (t389.toList == ([] : List UInt8))))) else (some false))) else (some false)))) else (some false))) = some r := H
                      have A106 := Aside0.mk A1060
                      clear A1060
                      obtain ⟨y369, hy369⟩ : ∃ y_ : List (S23), y_ = (([(⟨t361, t362, t363, t364⟩ : S23), (⟨t365, t366, t367, t368⟩ : S23)] : List (S23))) := ⟨_, rfl⟩
                      replace H : ((row_Fits.f k2 y369 y321).bind fun t372 => (if t372 = 60 then ((covenantlaw05_text.f (⟨#[]⟩ : ByteArray)).bind fun bt373 => ((row_Fits.f k2 (([(⟨1, 0, 0, (⟨#[120]⟩ : ByteArray)⟩ : S23), (⟨bt373.1, bt373.2.1, bt373.2.2.1, bt373.2.2.2⟩ : S23)] : List (S23))) y321).bind fun t380 => (if t380 = 60 then ((row_Fits.f k2 ([] : List (S23)) ([] : List (S65))).bind fun t381 => (if t381 = 0 then ((covenantlaw05_number.f 1).bind fun bt382 => ((row_Text.f k2 (([(⟨bt382.1, bt382.2.1, bt382.2.2.1, bt382.2.2.2⟩ : S23), (⟨1, 0, 0, (⟨#[120]⟩ : ByteArray)⟩ : S23)] : List (S23)))).bind fun t389 => (some (t389.toList == ([] : List UInt8))))) else (some false))) else (some false)))) else (some false))) = some r := by first | (rw [hy369]; with_reducible exact H) | (have H2_ := (Option.bind_some _ _).symm.trans H; rw [hy369]; with_reducible exact H2_) | (have H2_ := (Option.bind_some _ _).symm.trans H; with_reducible exact H2_) | with_reducible exact H | (rw [hy369]; exact H) | exact H
                      have Ny369 := Aside0.mk hy369
                      clear hy369
                      replace H := Option.bind_eq_some_iff.mp H
                      obtain ⟨t372, A1070, H⟩ := H
                      replace H : (if t372 = 60 then ((covenantlaw05_text.f (⟨#[]⟩ : ByteArray)).bind fun bt373 => ((row_Fits.f k2 (([(⟨1, 0, 0, (⟨#[120]⟩ : ByteArray)⟩ : S23), (⟨bt373.1, bt373.2.1, bt373.2.2.1, bt373.2.2.2⟩ : S23)] : List (S23))) y321).bind fun t380 => (if t380 = 60 then ((row_Fits.f k2 ([] : List (S23)) ([] : List (S65))).bind fun t381 => (if t381 = 0 then ((covenantlaw05_number.f 1).bind fun bt382 => ((row_Text.f k2 (([(⟨bt382.1, bt382.2.1, bt382.2.2.1, bt382.2.2.2⟩ : S23), (⟨1, 0, 0, (⟨#[120]⟩ : ByteArray)⟩ : S23)] : List (S23)))).bind fun t389 => (some (t389.toList == ([] : List UInt8))))) else (some false))) else (some false)))) else (some false)) = some r := H
                      have A107 := Aside0.mk A1070
                      clear A1070
                      by_cases c108 : t372 = 60
                      · rw [if_pos c108] at H
                        have c108b0 : (t372 == 60) = true := beq_iff_eq.mpr c108
                        have c108b1 : (t372 != 60) = false := bne_eq_false_iff_eq.mpr c108
                        clear c108
                        replace H := Option.bind_eq_some_iff.mp H
                        obtain ⟨⟨t373, t374, t375, t376⟩, A1090, H⟩ := H
                        replace H : ((row_Fits.f k2 (([(⟨1, 0, 0, (⟨#[120]⟩ : ByteArray)⟩ : S23), (⟨t373, t374, t375, t376⟩ : S23)] : List (S23))) y321).bind fun t380 => (if t380 = 60 then ((row_Fits.f k2 ([] : List (S23)) ([] : List (S65))).bind fun t381 => (if t381 = 0 then ((covenantlaw05_number.f 1).bind fun bt382 => ((row_Text.f k2 (([(⟨bt382.1, bt382.2.1, bt382.2.2.1, bt382.2.2.2⟩ : S23), (⟨1, 0, 0, (⟨#[120]⟩ : ByteArray)⟩ : S23)] : List (S23)))).bind fun t389 => (some (t389.toList == ([] : List UInt8))))) else (some false))) else (some false))) = some r := H
                        have A109 := Aside0.mk A1090
                        clear A1090
                        obtain ⟨y377, hy377⟩ : ∃ y_ : List (S23), y_ = (([(⟨1, 0, 0, (⟨#[120]⟩ : ByteArray)⟩ : S23), (⟨t373, t374, t375, t376⟩ : S23)] : List (S23))) := ⟨_, rfl⟩
                        replace H : ((row_Fits.f k2 y377 y321).bind fun t380 => (if t380 = 60 then ((row_Fits.f k2 ([] : List (S23)) ([] : List (S65))).bind fun t381 => (if t381 = 0 then ((covenantlaw05_number.f 1).bind fun bt382 => ((row_Text.f k2 (([(⟨bt382.1, bt382.2.1, bt382.2.2.1, bt382.2.2.2⟩ : S23), (⟨1, 0, 0, (⟨#[120]⟩ : ByteArray)⟩ : S23)] : List (S23)))).bind fun t389 => (some (t389.toList == ([] : List UInt8))))) else (some false))) else (some false))) = some r := by first | (rw [hy377]; with_reducible exact H) | (have H2_ := (Option.bind_some _ _).symm.trans H; rw [hy377]; with_reducible exact H2_) | (have H2_ := (Option.bind_some _ _).symm.trans H; with_reducible exact H2_) | with_reducible exact H | (rw [hy377]; exact H) | exact H
                        have Ny377 := Aside0.mk hy377
                        clear hy377
                        replace H := Option.bind_eq_some_iff.mp H
                        obtain ⟨t380, A1100, H⟩ := H
                        replace H : (if t380 = 60 then ((row_Fits.f k2 ([] : List (S23)) ([] : List (S65))).bind fun t381 => (if t381 = 0 then ((covenantlaw05_number.f 1).bind fun bt382 => ((row_Text.f k2 (([(⟨bt382.1, bt382.2.1, bt382.2.2.1, bt382.2.2.2⟩ : S23), (⟨1, 0, 0, (⟨#[120]⟩ : ByteArray)⟩ : S23)] : List (S23)))).bind fun t389 => (some (t389.toList == ([] : List UInt8))))) else (some false))) else (some false)) = some r := H
                        have A110 := Aside0.mk A1100
                        clear A1100
                        by_cases c111 : t380 = 60
                        · rw [if_pos c111] at H
                          have c111b0 : (t380 == 60) = true := beq_iff_eq.mpr c111
                          have c111b1 : (t380 != 60) = false := bne_eq_false_iff_eq.mpr c111
                          clear c111
                          replace H := Option.bind_eq_some_iff.mp H
                          obtain ⟨t381, A1120, H⟩ := H
                          replace H : (if t381 = 0 then ((covenantlaw05_number.f 1).bind fun bt382 => ((row_Text.f k2 (([(⟨bt382.1, bt382.2.1, bt382.2.2.1, bt382.2.2.2⟩ : S23), (⟨1, 0, 0, (⟨#[120]⟩ : ByteArray)⟩ : S23)] : List (S23)))).bind fun t389 => (some (t389.toList == ([] : List UInt8))))) else (some false)) = some r := H
                          have A112 := Aside0.mk A1120
                          clear A1120
                          by_cases c113 : t381 = 0
                          · rw [if_pos c113] at H
                            have c113b0 : (t381 == 0) = true := beq_iff_eq.mpr c113
                            have c113b1 : (t381 != 0) = false := bne_eq_false_iff_eq.mpr c113
                            clear c113
                            replace H := Option.bind_eq_some_iff.mp H
                            obtain ⟨⟨t382, t383, t384, t385⟩, A1140, H⟩ := H
                            replace H : ((row_Text.f k2 (([(⟨t382, t383, t384, t385⟩ : S23), (⟨1, 0, 0, (⟨#[120]⟩ : ByteArray)⟩ : S23)] : List (S23)))).bind fun t389 => (some (t389.toList == ([] : List UInt8)))) = some r := H
                            have A114 := Aside0.mk A1140
                            clear A1140
                            obtain ⟨y386, hy386⟩ : ∃ y_ : List (S23), y_ = (([(⟨t382, t383, t384, t385⟩ : S23), (⟨1, 0, 0, (⟨#[120]⟩ : ByteArray)⟩ : S23)] : List (S23))) := ⟨_, rfl⟩
                            replace H : ((row_Text.f k2 y386).bind fun t389 => (some (t389.toList == ([] : List UInt8)))) = some r := by first | (rw [hy386]; with_reducible exact H) | (have H2_ := (Option.bind_some _ _).symm.trans H; rw [hy386]; with_reducible exact H2_) | (have H2_ := (Option.bind_some _ _).symm.trans H; with_reducible exact H2_) | with_reducible exact H | (rw [hy386]; exact H) | exact H
                            have Ny386 := Aside0.mk hy386
                            clear hy386
                            replace H := Option.bind_eq_some_iff.mp H
                            obtain ⟨t389, A1150, H⟩ := H
                            replace H : (some (t389.toList == ([] : List UInt8))) = some r := H
                            have A115 := Aside0.mk A1150
                            clear A1150
                            obtain rfl := Option.some.inj H
                            try go_wp2_with (first | ((with_reducible refine gate_dst (N := 51) rfl ?_); (try (refine gate_guard (by rfl) ?_; dsimp only)); refine Kd.R_lit k65 _ 65 ?hg (N := 51) ?hd (xs := ([(⟨(⟨#[97]⟩ : ByteArray), 1, (⟨0, 0, 0, (⟨#[]⟩ : ByteArray)⟩ : S23)⟩ : S65), (⟨(⟨#[98]⟩ : ByteArray), 3, (⟨0, 0, 0, (⟨#[]⟩ : ByteArray)⟩ : S23)⟩ : S65)] : List (S65))) (inner := [.string (⟨#[97]⟩ : ByteArray), .int .u8 1, .int .u8 0, .int .i64 0, .int .i64 0, .string (⟨#[]⟩ : ByteArray), .string (⟨#[98]⟩ : ByteArray), .int .u8 3, .int .u8 0, .int .i64 0, .int .i64 0, .string (⟨#[]⟩ : ByteArray)]) (ok := fun _ => True) (okp := fun _ => True) ?hr ?hp (fun _ hk => hk) trivial (Below.refl _ _) (Nat.le_refl _) (by simp) ?_; (case hd => rfl); (case hg => rfl); (case hr => first | (go_simp; done) | (go_simp; rfl)); (case hp => exact (Reps.c6 (show Kd.M k65 _ _ _ (⟨(⟨#[97]⟩ : ByteArray), 1, (⟨0, 0, 0, (⟨#[]⟩ : ByteArray)⟩ : S23)⟩ : S65) [.string (⟨#[97]⟩ : ByteArray), .int .u8 1, .int .u8 0, .int .i64 0, .int .i64 0, .string (⟨#[]⟩ : ByteArray)] from (k65_mkM _ _ _ (⟨(⟨#[97]⟩ : ByteArray), 1, (⟨0, 0, 0, (⟨#[]⟩ : ByteArray)⟩ : S23)⟩ : S65) )) (Reps.c6 (show Kd.M k65 _ _ _ (⟨(⟨#[98]⟩ : ByteArray), 3, (⟨0, 0, 0, (⟨#[]⟩ : ByteArray)⟩ : S23)⟩ : S65) [.string (⟨#[98]⟩ : ByteArray), .int .u8 3, .int .u8 0, .int .i64 0, .int .i64 0, .string (⟨#[]⟩ : ByteArray)] from (k65_mkM _ _ _ (⟨(⟨#[98]⟩ : ByteArray), 3, (⟨0, 0, 0, (⟨#[]⟩ : ByteArray)⟩ : S23)⟩ : S65) )) (Reps.none _ _)))); intro v322 w116 ho117 hb hg_ hnew_; clear hg_ hnew_; (first | rw [← Ny321.out] at ho117 | (simp only [Int.reduceToNat] at ho117; rw [← Ny321.out] at ho117)); have n0_ := Aside0.mk (Kd.R_below (by (with_reducible repeat (first | apply Kd.R_alloc | apply Kd.R_drewN | apply Kd.R_drew)); exact HO_39.out) hb); have n1_ := Aside0.mk (Kd.R_lower ho117 (below_size (by repeat (first | (with_reducible first | exact HB.out | apply below_alloc | apply pw_below_drewN | apply below_drew1) | exact HB.out)))); have n2_ := Aside0.mk (below_step (by repeat (first | (with_reducible first | exact HB.out | apply below_alloc | apply pw_below_drewN | apply below_drew1) | exact HB.out)) hb); clear HO_39; clear HB; have HO_39 := n0_; have HO323 := n1_; have HB := n2_; clear n0_ n1_ n2_; clear hb ho117) | ((with_reducible refine gate_dst (N := 4) rfl ?_); (try (refine gate_guard (by rfl) ?_; dsimp only)); refine box_event ?hg (N := 4) ?hd (cs := #[.int .u8 0, .int .i64 0, .int .i64 0, .string (⟨#[]⟩ : ByteArray)]) (t := 23) ?hr ?_; (case hd => rfl); (case hg => rfl); (case hr => first | (go_simp; done) | (go_simp; rfl)); intro gb324 hg w118 hbox hb; have n0_ := Aside0.mk (Kd.R_below (by (with_reducible repeat (first | apply Kd.R_alloc | apply Kd.R_drewN | apply Kd.R_drew)); exact HO_39.out) hb); have n1_ := Aside0.mk (Kd.R_below (by (with_reducible repeat (first | apply Kd.R_alloc | apply Kd.R_drewN | apply Kd.R_drew)); exact HO323.out) hb); have n2_ := Aside0.mk (below_step (by repeat (first | (with_reducible first | exact HB.out | apply below_alloc | apply pw_below_drewN | apply below_drew1) | exact HB.out)) hb); have n3_ := Aside0.mk (hbox); have n4_ := Aside0.mk ((by rw [hg]; exact (below_size (by repeat (first | (with_reducible first | exact HB.out | apply below_alloc | apply pw_below_drewN | apply below_drew1) | exact HB.out))) : w.heap.size ≤ gb324)); have n5_ := Aside0.mk ((by rw [hg]; exact (below_size (by repeat (first | (with_reducible first | exact HB.out | apply below_alloc | apply pw_below_drewN | apply below_drew1) | exact HB.out))) : w.heap.size ≤ gb324)); clear HO_39; clear HO323; clear HB; have HO_39 := n0_; have HO323 := n1_; have HB := n2_; have BK324 := n3_; have GW324 := n4_; have GE324 := n5_; clear n0_ n1_ n2_ n3_ n4_ n5_; clear hb hbox hg; have hcz119_0 : w118.cell? ⟨gb324, 0, none⟩ = some (.int .u8 0) := (blk_cell BK324.out 0).trans rfl; have hcz119_1 : w118.cell? ⟨gb324, 1, none⟩ = some (.int .i64 0) := (blk_cell BK324.out 1).trans rfl; have hcz119_2 : w118.cell? ⟨gb324, 2, none⟩ = some (.int .i64 0) := (blk_cell BK324.out 2).trans rfl; have hcz119_3 : w118.cell? ⟨gb324, 3, none⟩ = some (.string (⟨#[]⟩ : ByteArray)) := (blk_cell BK324.out 3).trans rfl; have hfz119_0 := blk_frozen BK324.out 0; have hfz119_1 := blk_frozen BK324.out 1; have hfz119_2 := blk_frozen BK324.out 2; have hfz119_3 := blk_frozen BK324.out 3))
                            have n0_ : Aside0 (Kd.R Kd.string 9 ((((w118.setCell ⟨gb324, 0, none⟩ (.int .u8 1)).setCell ⟨gb324, 1, none⟩ (.int .i64 0)).setCell ⟨gb324, 2, none⟩ (.int .i64 0)).setCell ⟨gb324, 3, none⟩ (.string (⟨#[120]⟩ : ByteArray))) w.heap.size (fun _ => True) (.slice Ao84 y316.length co84) y316) := ⟨by (with_reducible repeat (first | apply Kd.R_alloc | apply Kd.R_drewN | apply Kd.R_drew)); exact Kd.R_mono (Kd.R_far (p := ⟨gb324, 3, none⟩) (Kd.R_far (p := ⟨gb324, 2, none⟩) (Kd.R_far (p := ⟨gb324, 1, none⟩) (Kd.R_far (p := ⟨gb324, 0, none⟩) (Kd.R_types HO_39.out BK324.out (by decide)) (fun _ hk => hk.2) (.int .u8 1)) (fun _ hk => hk.2) (.int .i64 0)) (fun _ hk => hk.2) (.int .i64 0)) (fun _ hk => hk.2) (.string (⟨#[120]⟩ : ByteArray))) (fun _ hk => trivial)⟩
                            have n1_ : Aside0 (Kd.R k65 65 ((((w118.setCell ⟨gb324, 0, none⟩ (.int .u8 1)).setCell ⟨gb324, 1, none⟩ (.int .i64 0)).setCell ⟨gb324, 2, none⟩ (.int .i64 0)).setCell ⟨gb324, 3, none⟩ (.string (⟨#[120]⟩ : ByteArray))) w.heap.size (fun _ => True) v322 y321) := ⟨by (with_reducible repeat (first | apply Kd.R_alloc | apply Kd.R_drewN | apply Kd.R_drew)); exact Kd.R_mono (Kd.R_far (p := ⟨gb324, 3, none⟩) (Kd.R_far (p := ⟨gb324, 2, none⟩) (Kd.R_far (p := ⟨gb324, 1, none⟩) (Kd.R_far (p := ⟨gb324, 0, none⟩) (Kd.R_types HO323.out BK324.out (by decide)) (fun _ hk => hk.2) (.int .u8 1)) (fun _ hk => hk.2) (.int .i64 0)) (fun _ hk => hk.2) (.int .i64 0)) (fun _ hk => hk.2) (.string (⟨#[120]⟩ : ByteArray))) (fun _ hk => trivial)⟩
                            have n2_ : Aside0 (((((w118.setCell ⟨gb324, 0, none⟩ (.int .u8 1)).setCell ⟨gb324, 1, none⟩ (.int .i64 0)).setCell ⟨gb324, 2, none⟩ (.int .i64 0)).setCell ⟨gb324, 3, none⟩ (.string (⟨#[120]⟩ : ByteArray))).heap[gb324]? = some (.cells #[.int .u8 1, .int .i64 0, .int .i64 0, .string (⟨#[120]⟩ : ByteArray)] 23 (0, 0))) := ⟨by (with_reducible repeat (first | refine blk_drewN ?_ _ | refine blk_drew ?_ | refine blk_alloc ?_ _)); refine blk_put (cs := #[.int .u8 1, .int .i64 0, .int .i64 0, .string (⟨#[]⟩ : ByteArray)]) ?_ 3 _ rfl; (with_reducible repeat (first | refine blk_drewN ?_ _ | refine blk_drew ?_ | refine blk_alloc ?_ _)); refine blk_put (cs := #[.int .u8 1, .int .i64 0, .int .i64 0, .string (⟨#[]⟩ : ByteArray)]) ?_ 2 _ rfl; (with_reducible repeat (first | refine blk_drewN ?_ _ | refine blk_drew ?_ | refine blk_alloc ?_ _)); refine blk_put (cs := #[.int .u8 1, .int .i64 0, .int .i64 0, .string (⟨#[]⟩ : ByteArray)]) ?_ 1 _ rfl; (with_reducible repeat (first | refine blk_drewN ?_ _ | refine blk_drew ?_ | refine blk_alloc ?_ _)); refine blk_put (cs := #[.int .u8 0, .int .i64 0, .int .i64 0, .string (⟨#[]⟩ : ByteArray)]) ?_ 0 _ rfl; (with_reducible repeat (first | refine blk_drewN ?_ _ | refine blk_drew ?_ | refine blk_alloc ?_ _)); exact BK324.out⟩
                            have n3_ : Aside0 (Below w.heap.size w ((((w118.setCell ⟨gb324, 0, none⟩ (.int .u8 1)).setCell ⟨gb324, 1, none⟩ (.int .i64 0)).setCell ⟨gb324, 2, none⟩ (.int .i64 0)).setCell ⟨gb324, 3, none⟩ (.string (⟨#[120]⟩ : ByteArray)))) := ⟨by repeat (first | (with_reducible first | exact HB.out | apply below_alloc | apply pw_below_drewN | apply below_drew1 | refine below_set ?_ GE324.out) | exact HB.out)⟩
                            (try clear HO_39)
                            (try clear HO323)
                            (try clear BK324)
                            (try clear HB)
                            generalize ((((w118.setCell ⟨gb324, 0, none⟩ (.int .u8 1)).setCell ⟨gb324, 1, none⟩ (.int .i64 0)).setCell ⟨gb324, 2, none⟩ (.int .i64 0)).setCell ⟨gb324, 3, none⟩ (.string (⟨#[120]⟩ : ByteArray))) = w120 at n0_ n1_ n2_ n3_ ⊢
                            have HO_39 := n0_
                            have HO323 := n1_
                            have BK324 := n2_
                            have HB := n3_
                            clear n0_ n1_ n2_ n3_
                            have n0_ := Aside0.mk (Kd.R_drew HO_39.out)
                            have n1_ := Aside0.mk (Kd.R_drew HO323.out)
                            have n2_ := Aside0.mk (blk_drew BK324.out)
                            have n3_ := Aside0.mk (below_drew1 HB.out)
                            clear HO_39
                            clear HO323
                            clear BK324
                            clear HB
                            have HO_39 := n0_
                            have HO323 := n1_
                            have BK324 := n2_
                            have HB := n3_
                            clear n0_ n1_ n2_ n3_
                            refine start_ (n := 58) (S := fun w' => w'.cell? ⟨gb324, 0, none⟩ = some (.int .u8 1) ∧ w'.cell? ⟨gb324, 1, none⟩ = some (.int .i64 0) ∧ w'.cell? ⟨gb324, 2, none⟩ = some (.int .i64 0) ∧ w'.cell? ⟨gb324, 3, none⟩ = some (.string (⟨#[120]⟩ : ByteArray))) (ds := []) #[false, false, false, false, false, false, false, false, false, false, false, false, false, false, false, false, false, false, false, false, false, false, false, false, false, false, false, false, false, false, false, false, false, false, false, false, false, false, false, false, false, false, false, false, false, false, false, false, false, false, false, false, false, false, false, false, false, false] (by kernel_rfl) rfl rfl ⟨(blk_cell BK324.out 0).trans rfl, (blk_cell BK324.out 1).trans rfl, (blk_cell BK324.out 2).trans rfl, (blk_cell BK324.out 3).trans rfl⟩ (fun hHeld => ?_); refine with_tabW rNames.tab11 rNames.bits11 (fun HT_ HW_ => ?_)
                            generalize w120.drew = w121 at HO_39 HO323 BK324 HB hHeld ⊢
                            refine pure_ (i := 3) (N := some 56) (v := ?_) (a' := ?_) #[false, false, false, true, false, false, false, false, false, false, false, false, false, false, false, false, false, false, false, false, false, false, false, false, false, false, false, false, false, false, false, false, false, false, false, false, false, false, false, false, false, false, false, false, false, false, false, false, false, false, false, false, false, false, false, false, false, false] rfl rfl (any_of HT_.out (by kernel_rfl)) (fun _ _ _ h => h) (Or.inl ⟨by rfl, ?_⟩) ?_ ?_
                            rotate_left
                            · intro w'
                              go_simp
                              with_reducible rfl
                            rotate_left
                            · simp only [Act.put, List.setIfInBounds_toArray, List.set_cons_zero, List.set_cons_succ, i64_w, i32_w]
                              rfl
                            refine one_ (i := 0) (N := some 53) #[true, false, false, true, false, false, false, false, false, false, false, false, false, false, false, false, false, false, false, false, false, false, false, false, false, false, false, false, false, false, false, false, false, false, false, false, false, false, false, false, false, false, false, false, false, false, false, false, false, false, false, false, false, false, false, false, false, false] rfl rfl (one_of HT_.out (by kernel_rfl)) (by decide) (fun K hK => ?_)
                            refine goes_ Tryd.func67 (by kernel_rfl) rfl #[.int .i64 1] (by rfl) rfl rfl (by (try simp only [List.map_toArray, List.map_cons, List.map_nil]); first | done | rfl | (simp only [List.length_drop, List.length_take]; rfl)) ?_
                            with_reducible refine (covenantlaw05_number.calls 1 t325 t326 t327 t328 _ A92.out).mono ?_
                            rintro e w122 ⟨rfl, hb⟩
                            refine ⟨_, rfl, ?_⟩
                            have n0_ := Aside0.mk (Kd.R_below (by (with_reducible repeat (first | apply Kd.R_alloc | apply Kd.R_drewN | apply Kd.R_drew)); exact HO_39.out) hb)
                            have n1_ := Aside0.mk (Kd.R_below (by (with_reducible repeat (first | apply Kd.R_alloc | apply Kd.R_drewN | apply Kd.R_drew)); exact HO323.out) hb)
                            have n2_ := Aside0.mk (blk_below (g := gb324) (o := .cells #[.int .u8 1, .int .i64 0, .int .i64 0, .string (⟨#[120]⟩ : ByteArray)] 23 (0, 0)) (by (with_reducible repeat (first | refine blk_drewN ?_ _ | refine blk_drew ?_ | refine blk_alloc ?_ _)); exact BK324.out) hb)
                            have n3_ := Aside0.mk (below_step (by repeat (first | (with_reducible first | exact HB.out | apply below_alloc | apply pw_below_drewN | apply below_drew1 | refine below_set ?_ GE324.out) | exact HB.out)) hb)
                            clear HO_39
                            clear HO323
                            clear BK324
                            clear HB
                            have HO_39 := n0_
                            have HO323 := n1_
                            have BK324 := n2_
                            have HB := n3_
                            clear n0_ n1_ n2_ n3_
                            (try clear hb)
                            (try clear hb2)
                            (try clear hk)
                            (try clear hi)
                            refine hK.out _ _ ⟨(blk_cell BK324.out 0).trans rfl, (blk_cell BK324.out 1).trans rfl, (blk_cell BK324.out 2).trans rfl, (blk_cell BK324.out 3).trans rfl⟩ (fun hHeld => ?_)
                            clear hK K
                            refine norm_ (a' := ?_) ?_ ?_
                            rotate_left
                            · show Act.put _ (some 53) _ = _
                              simp only [Act.put, List.setIfInBounds_toArray, List.set_cons_zero, List.set_cons_succ, i64_w, i32_w]
                              rfl
                            refine one_ (i := 1) (N := some 54) #[true, true, false, true, false, false, false, false, false, false, false, false, false, false, false, false, false, false, false, false, false, false, false, false, false, false, false, false, false, false, false, false, false, false, false, false, false, false, false, false, false, false, false, false, false, false, false, false, false, false, false, false, false, false, false, false, false, false] rfl rfl (one_of HT_.out (by kernel_rfl)) (by decide) (fun K hK => ?_)
                            refine goes_ Tryd.func66 (by kernel_rfl) rfl #[.string (⟨#[]⟩ : ByteArray)] (by rfl) rfl rfl (by (try simp only [List.map_toArray, List.map_cons, List.map_nil]); first | done | rfl | (simp only [List.length_drop, List.length_take]; rfl)) ?_
                            with_reducible refine (covenantlaw05_text.calls (⟨#[]⟩ : ByteArray) t329 t330 t331 t332 _ A93.out).mono ?_
                            rintro e w123 ⟨rfl, hb⟩
                            refine ⟨_, rfl, ?_⟩
                            have n0_ := Aside0.mk (Kd.R_below (by (with_reducible repeat (first | apply Kd.R_alloc | apply Kd.R_drewN | apply Kd.R_drew)); exact HO_39.out) hb)
                            have n1_ := Aside0.mk (Kd.R_below (by (with_reducible repeat (first | apply Kd.R_alloc | apply Kd.R_drewN | apply Kd.R_drew)); exact HO323.out) hb)
                            have n2_ := Aside0.mk (blk_below (g := gb324) (o := .cells #[.int .u8 1, .int .i64 0, .int .i64 0, .string (⟨#[120]⟩ : ByteArray)] 23 (0, 0)) (by (with_reducible repeat (first | refine blk_drewN ?_ _ | refine blk_drew ?_ | refine blk_alloc ?_ _)); exact BK324.out) hb)
                            have n3_ := Aside0.mk (below_step (by repeat (first | (with_reducible first | exact HB.out | apply below_alloc | apply pw_below_drewN | apply below_drew1 | refine below_set ?_ GE324.out) | exact HB.out)) hb)
                            clear HO_39
                            clear HO323
                            clear BK324
                            clear HB
                            have HO_39 := n0_
                            have HO323 := n1_
                            have BK324 := n2_
                            have HB := n3_
                            clear n0_ n1_ n2_ n3_
                            (try clear hb)
                            (try clear hb2)
                            (try clear hk)
                            (try clear hi)
                            refine hK.out _ _ ⟨(blk_cell BK324.out 0).trans rfl, (blk_cell BK324.out 1).trans rfl, (blk_cell BK324.out 2).trans rfl, (blk_cell BK324.out 3).trans rfl⟩ (fun hHeld => ?_)
                            clear hK K
                            refine norm_ (a' := ?_) ?_ ?_
                            rotate_left
                            · show Act.put _ (some 54) _ = _
                              simp only [Act.put, List.setIfInBounds_toArray, List.set_cons_zero, List.set_cons_succ, i64_w, i32_w]
                              rfl
                            refine one_ (i := 2) (N := some 55) #[true, true, true, true, false, false, false, false, false, false, false, false, false, false, false, false, false, false, false, false, false, false, false, false, false, false, false, false, false, false, false, false, false, false, false, false, false, false, false, false, false, false, false, false, false, false, false, false, false, false, false, false, false, false, false, false, false, false] rfl rfl (one_of HT_.out (by kernel_rfl)) (by decide) (fun K hK => ?_)
                            refine Kd.R_lit_step k23 _ 23 ?hg (N := 55) ?hd (xs := ([(⟨t325, t326, t327, t328⟩ : S23), (⟨t329, t330, t331, t332⟩ : S23)] : List (S23))) (inner := [.int .u8 t325, .int .i64 t326, .int .i64 t327, .string t328, .int .u8 t329, .int .i64 t330, .int .i64 t331, .string t332]) (ok := fun _ => True) (okp := fun _ => True) ?hr ?hp (fun _ hk => hk) trivial (Below.refl _ _) (Nat.le_refl _) (by simp) ?_; (case hd => rfl); (case hg => rfl); (case hr => first | (go_simp; done) | (go_simp; rfl)); (case hp => exact (Reps.c4 (show Kd.M k23 _ _ _ (⟨t325, t326, t327, t328⟩ : S23) [.int .u8 t325, .int .i64 t326, .int .i64 t327, .string t328] from (k23_mkM _ _ _ (⟨t325, t326, t327, t328⟩ : S23) )) (Reps.c4 (show Kd.M k23 _ _ _ (⟨t329, t330, t331, t332⟩ : S23) [.int .u8 t329, .int .i64 t330, .int .i64 t331, .string t332] from (k23_mkM _ _ _ (⟨t329, t330, t331, t332⟩ : S23) )) (Reps.none _ _))))
                            intro v334 w124 ho125 hb hg_ hnew_
                            clear hg_ hnew_
                            (first | rw [← Ny333.out] at ho125 | (simp only [Int.reduceToNat] at ho125; rw [← Ny333.out] at ho125))
                            have n0_ := Aside0.mk (Kd.R_below (by (with_reducible repeat (first | apply Kd.R_alloc | apply Kd.R_drewN | apply Kd.R_drew)); exact HO_39.out) hb)
                            have n1_ := Aside0.mk (Kd.R_below (by (with_reducible repeat (first | apply Kd.R_alloc | apply Kd.R_drewN | apply Kd.R_drew)); exact HO323.out) hb)
                            have n2_ := Aside0.mk (Kd.R_lower (Kd.R_newB ho125 (g := gb324) (o := .cells #[.int .u8 1, .int .i64 0, .int .i64 0, .string (⟨#[120]⟩ : ByteArray)] 23 (0, 0)) (by (with_reducible repeat (first | refine blk_drewN ?_ _ | refine blk_drew ?_ | refine blk_alloc ?_ _)); exact BK324.out)) (below_size (by repeat (first | (with_reducible first | exact HB.out | apply below_alloc | apply pw_below_drewN | apply below_drew1 | refine below_set ?_ GE324.out) | exact HB.out))))
                            have n3_ := Aside0.mk (blk_below (g := gb324) (o := .cells #[.int .u8 1, .int .i64 0, .int .i64 0, .string (⟨#[120]⟩ : ByteArray)] 23 (0, 0)) (by (with_reducible repeat (first | refine blk_drewN ?_ _ | refine blk_drew ?_ | refine blk_alloc ?_ _)); exact BK324.out) hb)
                            have n4_ := Aside0.mk (below_step (by repeat (first | (with_reducible first | exact HB.out | apply below_alloc | apply pw_below_drewN | apply below_drew1 | refine below_set ?_ GE324.out) | exact HB.out)) hb)
                            clear HO_39
                            clear HO323
                            clear BK324
                            clear HB
                            have HO_39 := n0_
                            have HO323 := n1_
                            have HO335 := n2_
                            have BK324 := n3_
                            have HB := n4_
                            clear n0_ n1_ n2_ n3_ n4_
                            clear hb ho125
                            obtain ⟨Ao126, co126, eo126⟩ := Kd.R_slice HO335.out
                            (first | subst eo126 | (injection eo126 with f1_ f2_ f3_; have f4_ := f1_.symm; have f5_ := f3_.symm; clear f1_ f2_ f3_; subst f4_; subst f5_))
                            obtain ⟨Ao127, co127, eo127⟩ := Kd.R_slice HO323.out
                            (first | subst eo127 | (injection eo127 with f1_ f2_ f3_; have f4_ := f1_.symm; have f5_ := f3_.symm; clear f1_ f2_ f3_; subst f4_; subst f5_))
                            refine hK.out _ _ ⟨(blk_cell BK324.out 0).trans rfl, (blk_cell BK324.out 1).trans rfl, (blk_cell BK324.out 2).trans rfl, (blk_cell BK324.out 3).trans rfl⟩ (fun hHeld => ?_)
                            clear hK K
                            refine norm_ (a' := ?_) ?_ ?_
                            rotate_left
                            · show Act.put _ (some 55) _ = _
                              simp only [Act.put, List.setIfInBounds_toArray, List.set_cons_zero, List.set_cons_succ, i64_w, i32_w]
                              rfl
                            refine one_ (i := 4) (N := some 57) #[true, true, true, true, true, false, false, false, false, false, false, false, false, false, false, false, false, false, false, false, false, false, false, false, false, false, false, false, false, false, false, false, false, false, false, false, false, false, false, false, false, false, false, false, false, false, false, false, false, false, false, false, false, false, false, false, false, false] rfl rfl (one_of HT_.out (by kernel_rfl)) (by decide) (fun K hK => ?_)
                            refine goes_ Tryd.func30 (by kernel_rfl) rfl #[.slice Ao126 y333.length co126, .slice Ao127 y321.length co127] (by rfl) rfl rfl (by (try simp only [List.map_toArray, List.map_cons, List.map_nil]); first | done | rfl | (simp only [List.length_drop, List.length_take]; rfl)) ?_
                            with_reducible refine (row_Fits.calls k2 _ _ y333 _ _ y321 t336 _ ?side1 ?side2 ?side3 ?side4 A94.out).mono ?_
                            (case side1 => repeat (first | exact (Kd.R_reads' HO335.out).2.2 | (with_reducible refine Kd.C_alloc ?_ _) | (with_reducible refine Kd.C_drewN ?_ _) | (with_reducible refine Kd.C_drew ?_)))
                            (case side2 => exact (Kd.R_reads' HO335.out).2.1)
                            (case side3 => repeat (first | exact (Kd.R_reads' HO323.out).2.2 | (with_reducible refine Kd.C_alloc ?_ _) | (with_reducible refine Kd.C_drewN ?_ _) | (with_reducible refine Kd.C_drew ?_)))
                            (case side4 => exact (Kd.R_reads' HO323.out).2.1)
                            rintro e w128 ⟨rfl, hb⟩
                            refine ⟨_, rfl, ?_⟩
                            have n0_ := Aside0.mk (Kd.R_below (by (with_reducible repeat (first | apply Kd.R_alloc | apply Kd.R_drewN | apply Kd.R_drew)); exact HO_39.out) hb)
                            have n1_ := Aside0.mk (Kd.R_below (by (with_reducible repeat (first | apply Kd.R_alloc | apply Kd.R_drewN | apply Kd.R_drew)); exact HO323.out) hb)
                            have n2_ := Aside0.mk (Kd.R_below (by (with_reducible repeat (first | apply Kd.R_alloc | apply Kd.R_drewN | apply Kd.R_drew)); exact HO335.out) hb)
                            have n3_ := Aside0.mk (blk_below (g := gb324) (o := .cells #[.int .u8 1, .int .i64 0, .int .i64 0, .string (⟨#[120]⟩ : ByteArray)] 23 (0, 0)) (by (with_reducible repeat (first | refine blk_drewN ?_ _ | refine blk_drew ?_ | refine blk_alloc ?_ _)); exact BK324.out) hb)
                            have n4_ := Aside0.mk (below_step (by repeat (first | (with_reducible first | exact HB.out | apply below_alloc | apply pw_below_drewN | apply below_drew1 | refine below_set ?_ GE324.out) | exact HB.out)) hb)
                            clear HO_39
                            clear HO323
                            clear HO335
                            clear BK324
                            clear HB
                            have HO_39 := n0_
                            have HO323 := n1_
                            have HO335 := n2_
                            have BK324 := n3_
                            have HB := n4_
                            clear n0_ n1_ n2_ n3_ n4_
                            (try clear hb)
                            (try clear hb2)
                            (try clear hk)
                            (try clear hi)
                            refine hK.out _ _ ⟨(blk_cell BK324.out 0).trans rfl, (blk_cell BK324.out 1).trans rfl, (blk_cell BK324.out 2).trans rfl, (blk_cell BK324.out 3).trans rfl⟩ (fun hHeld => ?_)
                            clear hK K
                            refine norm_ (a' := ?_) ?_ ?_
                            rotate_left
                            · show Act.put _ (some 57) _ = _
                              simp only [Act.put, List.setIfInBounds_toArray, List.set_cons_zero, List.set_cons_succ, i64_w, i32_w]
                              rfl
                            refine pure_ (i := 5) (N := some 58) (v := ?_) (a' := ?_) #[true, true, true, true, true, true, false, false, false, false, false, false, false, false, false, false, false, false, false, false, false, false, false, false, false, false, false, false, false, false, false, false, false, false, false, false, false, false, false, false, false, false, false, false, false, false, false, false, false, false, false, false, false, false, false, false, false, false] rfl rfl (any_of HT_.out (by kernel_rfl)) (fun _ _ _ h => h) (Or.inl ⟨by rfl, ?_⟩) ?_ ?_
                            rotate_left
                            · intro w'
                              go_simp
                              with_reducible rfl
                            rotate_left
                            · simp only [Act.put, List.setIfInBounds_toArray, List.set_cons_zero, List.set_cons_succ, i64_w, i32_w]
                              rfl
                            refine pure_ (i := 6) (N := some 59) (v := ?_) (a' := ?_) #[true, true, true, true, true, true, true, false, false, false, false, false, false, false, false, false, false, false, false, false, false, false, false, false, false, false, false, false, false, false, false, false, false, false, false, false, false, false, false, false, false, false, false, false, false, false, false, false, false, false, false, false, false, false, false, false, false, false] rfl rfl (any_of HT_.out (by kernel_rfl)) (fun _ _ _ h => h) (Or.inl ⟨by rfl, ?_⟩) ?_ ?_
                            rotate_left
                            · intro w'
                              go_simp
                              with_reducible rfl
                            rotate_left
                            · simp only [Act.put, List.setIfInBounds_toArray, List.set_cons_zero, List.set_cons_succ, i64_w, i32_w]
                              rfl
                            refine pure_ (i := 7) (N := some 60) (v := ?_) (a' := ?_) #[true, true, true, true, true, true, true, true, false, false, false, false, false, false, false, false, false, false, false, false, false, false, false, false, false, false, false, false, false, false, false, false, false, false, false, false, false, false, false, false, false, false, false, false, false, false, false, false, false, false, false, false, false, false, false, false, false, false] rfl rfl (any_of HT_.out (by kernel_rfl)) (fun _ _ _ h => h) (Or.inl ⟨by rfl, ?_⟩) ?_ ?_
                            rotate_left
                            · intro w'
                              go_simp
                              with_reducible rfl
                            rotate_left
                            · simp only [Act.put, List.setIfInBounds_toArray, List.set_cons_zero, List.set_cons_succ, i64_w, i32_w]
                              rfl
                            refine pure_ (i := 8) (N := some 61) (v := ?_) (a' := ?_) #[true, true, true, true, true, true, true, true, true, false, false, false, false, false, false, false, false, false, false, false, false, false, false, false, false, false, false, false, false, false, false, false, false, false, false, false, false, false, false, false, false, false, false, false, false, false, false, false, false, false, false, false, false, false, false, false, false, false] rfl rfl (any_of HT_.out (by kernel_rfl)) (fun _ _ _ h => h) (Or.inl ⟨by rfl, ?_⟩) ?_ ?_
                            rotate_left
                            · intro w'
                              go_simp
                              with_reducible rfl
                            rotate_left
                            · simp only [Act.put, List.setIfInBounds_toArray, List.set_cons_zero, List.set_cons_succ, i64_w, i32_w]
                              rfl
                            refine pure_ (i := 10) (N := some 63) (v := ?_) (a' := ?_) #[true, true, true, true, true, true, true, true, true, false, true, false, false, false, false, false, false, false, false, false, false, false, false, false, false, false, false, false, false, false, false, false, false, false, false, false, false, false, false, false, false, false, false, false, false, false, false, false, false, false, false, false, false, false, false, false, false, false] rfl rfl (any_of HT_.out (by kernel_rfl)) (fun _ _ _ h => h) (Or.inl ⟨by rfl, ?_⟩) ?_ ?_
                            rotate_left
                            · intro w'
                              go_simp
                              with_reducible rfl
                            rotate_left
                            · simp only [Act.put, List.setIfInBounds_toArray, List.set_cons_zero, List.set_cons_succ, i64_w, i32_w]
                              rfl
                            refine one_ (i := 9) (N := some 62) #[true, true, true, true, true, true, true, true, true, true, true, false, false, false, false, false, false, false, false, false, false, false, false, false, false, false, false, false, false, false, false, false, false, false, false, false, false, false, false, false, false, false, false, false, false, false, false, false, false, false, false, false, false, false, false, false, false, false] rfl rfl (one_of HT_.out (by kernel_rfl)) (by decide) (fun K hK => ?_)
                            refine Kd.R_lit_step k23 _ 23 ?hg (N := 62) ?hd (xs := ([(⟨0, 0, 0, (⟨#[]⟩ : ByteArray)⟩ : S23), (⟨0, 0, 0, (⟨#[]⟩ : ByteArray)⟩ : S23)] : List (S23))) (inner := [.int .u8 0, .int .i64 0, .int .i64 0, .string (⟨#[]⟩ : ByteArray), .int .u8 0, .int .i64 0, .int .i64 0, .string (⟨#[]⟩ : ByteArray)]) (ok := fun _ => True) (okp := fun _ => True) ?hr ?hp (fun _ hk => hk) trivial (Below.refl _ _) (Nat.le_refl _) (by simp) ?_; (case hd => rfl); (case hg => rfl); (case hr => first | (go_simp; done) | (go_simp; rfl)); (case hp => exact (Reps.c4 (show Kd.M k23 _ _ _ (⟨0, 0, 0, (⟨#[]⟩ : ByteArray)⟩ : S23) [.int .u8 0, .int .i64 0, .int .i64 0, .string (⟨#[]⟩ : ByteArray)] from (k23_mkM _ _ _ (⟨0, 0, 0, (⟨#[]⟩ : ByteArray)⟩ : S23) )) (Reps.c4 (show Kd.M k23 _ _ _ (⟨0, 0, 0, (⟨#[]⟩ : ByteArray)⟩ : S23) [.int .u8 0, .int .i64 0, .int .i64 0, .string (⟨#[]⟩ : ByteArray)] from (k23_mkM _ _ _ (⟨0, 0, 0, (⟨#[]⟩ : ByteArray)⟩ : S23) )) (Reps.none _ _))))
                            intro v338 w129 ho130 hb hg_ hnew_
                            clear hg_ hnew_
                            (first | rw [← Ny337.out] at ho130 | (simp only [Int.reduceToNat] at ho130; rw [← Ny337.out] at ho130))
                            have n0_ := Aside0.mk (Kd.R_below (by (with_reducible repeat (first | apply Kd.R_alloc | apply Kd.R_drewN | apply Kd.R_drew)); exact HO_39.out) hb)
                            have n1_ := Aside0.mk (Kd.R_below (by (with_reducible repeat (first | apply Kd.R_alloc | apply Kd.R_drewN | apply Kd.R_drew)); exact HO323.out) hb)
                            have n2_ := Aside0.mk (Kd.R_elder' (by (with_reducible repeat (first | apply Kd.R_alloc | apply Kd.R_drewN | apply Kd.R_drew)); exact HO335.out) (Kd.R_base ho130) hb)
                            have n3_ := Aside0.mk (Kd.R_lower (Kd.R_newB (Kd.R_new' ho130 (Kd.R_lt (by (with_reducible repeat (first | apply Kd.R_alloc | apply Kd.R_drewN | apply Kd.R_drew)); exact HO335.out))) (g := gb324) (o := .cells #[.int .u8 1, .int .i64 0, .int .i64 0, .string (⟨#[120]⟩ : ByteArray)] 23 (0, 0)) (by (with_reducible repeat (first | refine blk_drewN ?_ _ | refine blk_drew ?_ | refine blk_alloc ?_ _)); exact BK324.out)) (below_size (by repeat (first | (with_reducible first | exact HB.out | apply below_alloc | apply pw_below_drewN | apply below_drew1 | refine below_set ?_ GE324.out) | exact HB.out))))
                            have n4_ := Aside0.mk (blk_below (g := gb324) (o := .cells #[.int .u8 1, .int .i64 0, .int .i64 0, .string (⟨#[120]⟩ : ByteArray)] 23 (0, 0)) (by (with_reducible repeat (first | refine blk_drewN ?_ _ | refine blk_drew ?_ | refine blk_alloc ?_ _)); exact BK324.out) hb)
                            have n5_ := Aside0.mk (below_step (by repeat (first | (with_reducible first | exact HB.out | apply below_alloc | apply pw_below_drewN | apply below_drew1 | refine below_set ?_ GE324.out) | exact HB.out)) hb)
                            clear HO_39
                            clear HO323
                            clear HO335
                            clear BK324
                            clear HB
                            have HO_39 := n0_
                            have HO323 := n1_
                            have HO335 := n2_
                            have HO339 := n3_
                            have BK324 := n4_
                            have HB := n5_
                            clear n0_ n1_ n2_ n3_ n4_ n5_
                            clear hb ho130
                            obtain ⟨Ao131, co131, eo131⟩ := Kd.R_slice HO339.out
                            (first | subst eo131 | (injection eo131 with f1_ f2_ f3_; have f4_ := f1_.symm; have f5_ := f3_.symm; clear f1_ f2_ f3_; subst f4_; subst f5_))
                            refine hK.out _ _ ⟨(blk_cell BK324.out 0).trans rfl, (blk_cell BK324.out 1).trans rfl, (blk_cell BK324.out 2).trans rfl, (blk_cell BK324.out 3).trans rfl⟩ (fun hHeld => ?_)
                            clear hK K
                            refine norm_ (a' := ?_) ?_ ?_
                            rotate_left
                            · show Act.put _ (some 62) _ = _
                              simp only [Act.put, List.setIfInBounds_toArray, List.set_cons_zero, List.set_cons_succ, i64_w, i32_w]
                              rfl
                            refine one_ (i := 11) (N := some 64) #[true, true, true, true, true, true, true, true, true, true, true, true, false, false, false, false, false, false, false, false, false, false, false, false, false, false, false, false, false, false, false, false, false, false, false, false, false, false, false, false, false, false, false, false, false, false, false, false, false, false, false, false, false, false, false, false, false, false] rfl rfl (one_of HT_.out (by kernel_rfl)) (by decide) (fun K hK => ?_)
                            refine goes_ Tryd.func30 (by kernel_rfl) rfl #[.slice Ao131 y337.length co131, .slice Ao127 y321.length co127] (by rfl) rfl rfl (by (try simp only [List.map_toArray, List.map_cons, List.map_nil]); first | done | rfl | (simp only [List.length_drop, List.length_take]; rfl)) ?_
                            with_reducible refine (row_Fits.calls k2 _ _ y337 _ _ y321 t340 _ ?side1 ?side2 ?side3 ?side4 A96.out).mono ?_
                            (case side1 => repeat (first | exact (Kd.R_reads' HO339.out).2.2 | (with_reducible refine Kd.C_alloc ?_ _) | (with_reducible refine Kd.C_drewN ?_ _) | (with_reducible refine Kd.C_drew ?_)))
                            (case side2 => exact (Kd.R_reads' HO339.out).2.1)
                            (case side3 => repeat (first | exact (Kd.R_reads' HO323.out).2.2 | (with_reducible refine Kd.C_alloc ?_ _) | (with_reducible refine Kd.C_drewN ?_ _) | (with_reducible refine Kd.C_drew ?_)))
                            (case side4 => exact (Kd.R_reads' HO323.out).2.1)
                            rintro e w132 ⟨rfl, hb⟩
                            refine ⟨_, rfl, ?_⟩
                            have n0_ := Aside0.mk (Kd.R_below (by (with_reducible repeat (first | apply Kd.R_alloc | apply Kd.R_drewN | apply Kd.R_drew)); exact HO_39.out) hb)
                            have n1_ := Aside0.mk (Kd.R_below (by (with_reducible repeat (first | apply Kd.R_alloc | apply Kd.R_drewN | apply Kd.R_drew)); exact HO323.out) hb)
                            have n2_ := Aside0.mk (Kd.R_below (by (with_reducible repeat (first | apply Kd.R_alloc | apply Kd.R_drewN | apply Kd.R_drew)); exact HO335.out) hb)
                            have n3_ := Aside0.mk (Kd.R_below (by (with_reducible repeat (first | apply Kd.R_alloc | apply Kd.R_drewN | apply Kd.R_drew)); exact HO339.out) hb)
                            have n4_ := Aside0.mk (blk_below (g := gb324) (o := .cells #[.int .u8 1, .int .i64 0, .int .i64 0, .string (⟨#[120]⟩ : ByteArray)] 23 (0, 0)) (by (with_reducible repeat (first | refine blk_drewN ?_ _ | refine blk_drew ?_ | refine blk_alloc ?_ _)); exact BK324.out) hb)
                            have n5_ := Aside0.mk (below_step (by repeat (first | (with_reducible first | exact HB.out | apply below_alloc | apply pw_below_drewN | apply below_drew1 | refine below_set ?_ GE324.out) | exact HB.out)) hb)
                            clear HO_39
                            clear HO323
                            clear HO335
                            clear HO339
                            clear BK324
                            clear HB
                            have HO_39 := n0_
                            have HO323 := n1_
                            have HO335 := n2_
                            have HO339 := n3_
                            have BK324 := n4_
                            have HB := n5_
                            clear n0_ n1_ n2_ n3_ n4_ n5_
                            (try clear hb)
                            (try clear hb2)
                            (try clear hk)
                            (try clear hi)
                            refine hK.out _ _ ⟨(blk_cell BK324.out 0).trans rfl, (blk_cell BK324.out 1).trans rfl, (blk_cell BK324.out 2).trans rfl, (blk_cell BK324.out 3).trans rfl⟩ (fun hHeld => ?_)
                            clear hK K
                            refine norm_ (a' := ?_) ?_ ?_
                            rotate_left
                            · show Act.put _ (some 64) _ = _
                              simp only [Act.put, List.setIfInBounds_toArray, List.set_cons_zero, List.set_cons_succ, i64_w, i32_w]
                              rfl
                            refine pure_ (i := 12) (N := some 65) (v := ?_) (a' := ?_) #[true, true, true, true, true, true, true, true, true, true, true, true, true, false, false, false, false, false, false, false, false, false, false, false, false, false, false, false, false, false, false, false, false, false, false, false, false, false, false, false, false, false, false, false, false, false, false, false, false, false, false, false, false, false, false, false, false, false] rfl rfl (any_of HT_.out (by kernel_rfl)) (fun _ _ _ h => h) (Or.inl ⟨by rfl, ?_⟩) ?_ ?_
                            rotate_left
                            · intro w'
                              go_simp
                              with_reducible rfl
                            rotate_left
                            · simp only [Act.put, List.setIfInBounds_toArray, List.set_cons_zero, List.set_cons_succ, i64_w, i32_w]
                              rfl
                            refine pure_ (i := 13) (N := some 66) (v := ?_) (a' := ?_) #[true, true, true, true, true, true, true, true, true, true, true, true, true, true, false, false, false, false, false, false, false, false, false, false, false, false, false, false, false, false, false, false, false, false, false, false, false, false, false, false, false, false, false, false, false, false, false, false, false, false, false, false, false, false, false, false, false, false] rfl rfl (any_of HT_.out (by kernel_rfl)) (fun _ _ _ h => h) (Or.inl ⟨by rfl, ?_⟩) ?_ ?_
                            rotate_left
                            · intro w'
                              go_simp
                              with_reducible rfl
                            rotate_left
                            · simp only [Act.put, List.setIfInBounds_toArray, List.set_cons_zero, List.set_cons_succ, i64_w, i32_w]
                              rfl
                            refine pure_ (i := 14) (N := some 67) (v := ?_) (a' := ?_) #[true, true, true, true, true, true, true, true, true, true, true, true, true, true, true, false, false, false, false, false, false, false, false, false, false, false, false, false, false, false, false, false, false, false, false, false, false, false, false, false, false, false, false, false, false, false, false, false, false, false, false, false, false, false, false, false, false, false] rfl rfl (any_of HT_.out (by kernel_rfl)) (fun _ _ _ h => h) (Or.inl ⟨by rfl, ?_⟩) ?_ ?_
                            rotate_left
                            · intro w'
                              go_simp
                              with_reducible rfl
                            rotate_left
                            · simp only [Act.put, List.setIfInBounds_toArray, List.set_cons_zero, List.set_cons_succ, i64_w, i32_w]
                              rfl
                            refine pure_ (i := 17) (N := some 70) (v := ?_) (a' := ?_) #[true, true, true, true, true, true, true, true, true, true, true, true, true, true, true, false, false, true, false, false, false, false, false, false, false, false, false, false, false, false, false, false, false, false, false, false, false, false, false, false, false, false, false, false, false, false, false, false, false, false, false, false, false, false, false, false, false, false] rfl rfl (any_of HT_.out (by kernel_rfl)) (fun _ _ _ h => h) (Or.inl ⟨by rfl, ?_⟩) ?_ ?_
                            rotate_left
                            · intro w'
                              go_simp
                              with_reducible rfl
                            rotate_left
                            · simp only [Act.put, List.setIfInBounds_toArray, List.set_cons_zero, List.set_cons_succ, i64_w, i32_w]
                              rfl
                            refine one_ (i := 15) (N := some 68) #[true, true, true, true, true, true, true, true, true, true, true, true, true, true, true, true, false, true, false, false, false, false, false, false, false, false, false, false, false, false, false, false, false, false, false, false, false, false, false, false, false, false, false, false, false, false, false, false, false, false, false, false, false, false, false, false, false, false] rfl rfl (one_of HT_.out (by kernel_rfl)) (by decide) (fun K hK => ?_)
                            refine goes_ Tryd.func67 (by kernel_rfl) rfl #[.int .i64 1] (by rfl) rfl rfl (by (try simp only [List.map_toArray, List.map_cons, List.map_nil]); first | done | rfl | (simp only [List.length_drop, List.length_take]; rfl)) ?_
                            with_reducible refine (covenantlaw05_number.calls 1 t341 t342 t343 t344 _ A98.out).mono ?_
                            rintro e w133 ⟨rfl, hb⟩
                            refine ⟨_, rfl, ?_⟩
                            have n0_ := Aside0.mk (Kd.R_below (by (with_reducible repeat (first | apply Kd.R_alloc | apply Kd.R_drewN | apply Kd.R_drew)); exact HO_39.out) hb)
                            have n1_ := Aside0.mk (Kd.R_below (by (with_reducible repeat (first | apply Kd.R_alloc | apply Kd.R_drewN | apply Kd.R_drew)); exact HO323.out) hb)
                            have n2_ := Aside0.mk (Kd.R_below (by (with_reducible repeat (first | apply Kd.R_alloc | apply Kd.R_drewN | apply Kd.R_drew)); exact HO335.out) hb)
                            have n3_ := Aside0.mk (Kd.R_below (by (with_reducible repeat (first | apply Kd.R_alloc | apply Kd.R_drewN | apply Kd.R_drew)); exact HO339.out) hb)
                            have n4_ := Aside0.mk (blk_below (g := gb324) (o := .cells #[.int .u8 1, .int .i64 0, .int .i64 0, .string (⟨#[120]⟩ : ByteArray)] 23 (0, 0)) (by (with_reducible repeat (first | refine blk_drewN ?_ _ | refine blk_drew ?_ | refine blk_alloc ?_ _)); exact BK324.out) hb)
                            have n5_ := Aside0.mk (below_step (by repeat (first | (with_reducible first | exact HB.out | apply below_alloc | apply pw_below_drewN | apply below_drew1 | refine below_set ?_ GE324.out) | exact HB.out)) hb)
                            clear HO_39
                            clear HO323
                            clear HO335
                            clear HO339
                            clear BK324
                            clear HB
                            have HO_39 := n0_
                            have HO323 := n1_
                            have HO335 := n2_
                            have HO339 := n3_
                            have BK324 := n4_
                            have HB := n5_
                            clear n0_ n1_ n2_ n3_ n4_ n5_
                            (try clear hb)
                            (try clear hb2)
                            (try clear hk)
                            (try clear hi)
                            refine hK.out _ _ ⟨(blk_cell BK324.out 0).trans rfl, (blk_cell BK324.out 1).trans rfl, (blk_cell BK324.out 2).trans rfl, (blk_cell BK324.out 3).trans rfl⟩ (fun hHeld => ?_)
                            clear hK K
                            refine norm_ (a' := ?_) ?_ ?_
                            rotate_left
                            · show Act.put _ (some 68) _ = _
                              simp only [Act.put, List.setIfInBounds_toArray, List.set_cons_zero, List.set_cons_succ, i64_w, i32_w]
                              rfl
                            refine one_ (i := 16) (N := some 69) #[true, true, true, true, true, true, true, true, true, true, true, true, true, true, true, true, true, true, false, false, false, false, false, false, false, false, false, false, false, false, false, false, false, false, false, false, false, false, false, false, false, false, false, false, false, false, false, false, false, false, false, false, false, false, false, false, false, false] rfl rfl (one_of HT_.out (by kernel_rfl)) (by decide) (fun K hK => ?_)
                            refine Kd.R_lit_step k23 _ 23 ?hg (N := 69) ?hd (xs := ([(⟨t341, t342, t343, t344⟩ : S23)] : List (S23))) (inner := [.int .u8 t341, .int .i64 t342, .int .i64 t343, .string t344]) (ok := fun _ => True) (okp := fun _ => True) ?hr ?hp (fun _ hk => hk) trivial (Below.refl _ _) (Nat.le_refl _) (by simp) ?_; (case hd => rfl); (case hg => rfl); (case hr => first | (go_simp; done) | (go_simp; rfl)); (case hp => exact (Reps.c4 (show Kd.M k23 _ _ _ (⟨t341, t342, t343, t344⟩ : S23) [.int .u8 t341, .int .i64 t342, .int .i64 t343, .string t344] from (k23_mkM _ _ _ (⟨t341, t342, t343, t344⟩ : S23) )) (Reps.none _ _)))
                            intro v346 w134 ho135 hb hg_ hnew_
                            clear hg_ hnew_
                            (first | rw [← Ny345.out] at ho135 | (simp only [Int.reduceToNat] at ho135; rw [← Ny345.out] at ho135))
                            have n0_ := Aside0.mk (Kd.R_below (by (with_reducible repeat (first | apply Kd.R_alloc | apply Kd.R_drewN | apply Kd.R_drew)); exact HO_39.out) hb)
                            have n1_ := Aside0.mk (Kd.R_below (by (with_reducible repeat (first | apply Kd.R_alloc | apply Kd.R_drewN | apply Kd.R_drew)); exact HO323.out) hb)
                            have n2_ := Aside0.mk (Kd.R_elder' (by (with_reducible repeat (first | apply Kd.R_alloc | apply Kd.R_drewN | apply Kd.R_drew)); exact HO335.out) (Kd.R_base ho135) hb)
                            have n3_ := Aside0.mk (Kd.R_elder' (by (with_reducible repeat (first | apply Kd.R_alloc | apply Kd.R_drewN | apply Kd.R_drew)); exact HO339.out) (Kd.R_base ho135) hb)
                            have n4_ := Aside0.mk (Kd.R_lower (Kd.R_newB (Kd.R_new' (Kd.R_new' ho135 (Kd.R_lt (by (with_reducible repeat (first | apply Kd.R_alloc | apply Kd.R_drewN | apply Kd.R_drew)); exact HO335.out))) (Kd.R_lt (by (with_reducible repeat (first | apply Kd.R_alloc | apply Kd.R_drewN | apply Kd.R_drew)); exact HO339.out))) (g := gb324) (o := .cells #[.int .u8 1, .int .i64 0, .int .i64 0, .string (⟨#[120]⟩ : ByteArray)] 23 (0, 0)) (by (with_reducible repeat (first | refine blk_drewN ?_ _ | refine blk_drew ?_ | refine blk_alloc ?_ _)); exact BK324.out)) (below_size (by repeat (first | (with_reducible first | exact HB.out | apply below_alloc | apply pw_below_drewN | apply below_drew1 | refine below_set ?_ GE324.out) | exact HB.out))))
                            have n5_ := Aside0.mk (blk_below (g := gb324) (o := .cells #[.int .u8 1, .int .i64 0, .int .i64 0, .string (⟨#[120]⟩ : ByteArray)] 23 (0, 0)) (by (with_reducible repeat (first | refine blk_drewN ?_ _ | refine blk_drew ?_ | refine blk_alloc ?_ _)); exact BK324.out) hb)
                            have n6_ := Aside0.mk (below_step (by repeat (first | (with_reducible first | exact HB.out | apply below_alloc | apply pw_below_drewN | apply below_drew1 | refine below_set ?_ GE324.out) | exact HB.out)) hb)
                            clear HO_39
                            clear HO323
                            clear HO335
                            clear HO339
                            clear BK324
                            clear HB
                            have HO_39 := n0_
                            have HO323 := n1_
                            have HO335 := n2_
                            have HO339 := n3_
                            have HO347 := n4_
                            have BK324 := n5_
                            have HB := n6_
                            clear n0_ n1_ n2_ n3_ n4_ n5_ n6_
                            clear hb ho135
                            obtain ⟨Ao136, co136, eo136⟩ := Kd.R_slice HO347.out
                            (first | subst eo136 | (injection eo136 with f1_ f2_ f3_; have f4_ := f1_.symm; have f5_ := f3_.symm; clear f1_ f2_ f3_; subst f4_; subst f5_))
                            refine hK.out _ _ ⟨(blk_cell BK324.out 0).trans rfl, (blk_cell BK324.out 1).trans rfl, (blk_cell BK324.out 2).trans rfl, (blk_cell BK324.out 3).trans rfl⟩ (fun hHeld => ?_)
                            clear hK K
                            refine norm_ (a' := ?_) ?_ ?_
                            rotate_left
                            · show Act.put _ (some 69) _ = _
                              simp only [Act.put, List.setIfInBounds_toArray, List.set_cons_zero, List.set_cons_succ, i64_w, i32_w]
                              rfl
                            refine one_ (i := 18) (N := some 71) #[true, true, true, true, true, true, true, true, true, true, true, true, true, true, true, true, true, true, true, false, false, false, false, false, false, false, false, false, false, false, false, false, false, false, false, false, false, false, false, false, false, false, false, false, false, false, false, false, false, false, false, false, false, false, false, false, false, false] rfl rfl (one_of HT_.out (by kernel_rfl)) (by decide) (fun K hK => ?_)
                            refine goes_ Tryd.func30 (by kernel_rfl) rfl #[.slice Ao136 y345.length co136, .slice Ao127 y321.length co127] (by rfl) rfl rfl (by (try simp only [List.map_toArray, List.map_cons, List.map_nil]); first | done | rfl | (simp only [List.length_drop, List.length_take]; rfl)) ?_
                            with_reducible refine (row_Fits.calls k2 _ _ y345 _ _ y321 t348 _ ?side1 ?side2 ?side3 ?side4 A99.out).mono ?_
                            (case side1 => repeat (first | exact (Kd.R_reads' HO347.out).2.2 | (with_reducible refine Kd.C_alloc ?_ _) | (with_reducible refine Kd.C_drewN ?_ _) | (with_reducible refine Kd.C_drew ?_)))
                            (case side2 => exact (Kd.R_reads' HO347.out).2.1)
                            (case side3 => repeat (first | exact (Kd.R_reads' HO323.out).2.2 | (with_reducible refine Kd.C_alloc ?_ _) | (with_reducible refine Kd.C_drewN ?_ _) | (with_reducible refine Kd.C_drew ?_)))
                            (case side4 => exact (Kd.R_reads' HO323.out).2.1)
                            rintro e w137 ⟨rfl, hb⟩
                            refine ⟨_, rfl, ?_⟩
                            have n0_ := Aside0.mk (Kd.R_below (by (with_reducible repeat (first | apply Kd.R_alloc | apply Kd.R_drewN | apply Kd.R_drew)); exact HO_39.out) hb)
                            have n1_ := Aside0.mk (Kd.R_below (by (with_reducible repeat (first | apply Kd.R_alloc | apply Kd.R_drewN | apply Kd.R_drew)); exact HO323.out) hb)
                            have n2_ := Aside0.mk (Kd.R_below (by (with_reducible repeat (first | apply Kd.R_alloc | apply Kd.R_drewN | apply Kd.R_drew)); exact HO335.out) hb)
                            have n3_ := Aside0.mk (Kd.R_below (by (with_reducible repeat (first | apply Kd.R_alloc | apply Kd.R_drewN | apply Kd.R_drew)); exact HO339.out) hb)
                            have n4_ := Aside0.mk (Kd.R_below (by (with_reducible repeat (first | apply Kd.R_alloc | apply Kd.R_drewN | apply Kd.R_drew)); exact HO347.out) hb)
                            have n5_ := Aside0.mk (blk_below (g := gb324) (o := .cells #[.int .u8 1, .int .i64 0, .int .i64 0, .string (⟨#[120]⟩ : ByteArray)] 23 (0, 0)) (by (with_reducible repeat (first | refine blk_drewN ?_ _ | refine blk_drew ?_ | refine blk_alloc ?_ _)); exact BK324.out) hb)
                            have n6_ := Aside0.mk (below_step (by repeat (first | (with_reducible first | exact HB.out | apply below_alloc | apply pw_below_drewN | apply below_drew1 | refine below_set ?_ GE324.out) | exact HB.out)) hb)
                            clear HO_39
                            clear HO323
                            clear HO335
                            clear HO339
                            clear HO347
                            clear BK324
                            clear HB
                            have HO_39 := n0_
                            have HO323 := n1_
                            have HO335 := n2_
                            have HO339 := n3_
                            have HO347 := n4_
                            have BK324 := n5_
                            have HB := n6_
                            clear n0_ n1_ n2_ n3_ n4_ n5_ n6_
                            (try clear hb)
                            (try clear hb2)
                            (try clear hk)
                            (try clear hi)
                            refine hK.out _ _ ⟨(blk_cell BK324.out 0).trans rfl, (blk_cell BK324.out 1).trans rfl, (blk_cell BK324.out 2).trans rfl, (blk_cell BK324.out 3).trans rfl⟩ (fun hHeld => ?_)
                            clear hK K
                            refine norm_ (a' := ?_) ?_ ?_
                            rotate_left
                            · show Act.put _ (some 71) _ = _
                              simp only [Act.put, List.setIfInBounds_toArray, List.set_cons_zero, List.set_cons_succ, i64_w, i32_w]
                              rfl
                            refine pure_ (i := 19) (N := some 72) (v := ?_) (a' := ?_) #[true, true, true, true, true, true, true, true, true, true, true, true, true, true, true, true, true, true, true, true, false, false, false, false, false, false, false, false, false, false, false, false, false, false, false, false, false, false, false, false, false, false, false, false, false, false, false, false, false, false, false, false, false, false, false, false, false, false] rfl rfl (any_of HT_.out (by kernel_rfl)) (fun _ _ _ h => h) (Or.inl ⟨by rfl, ?_⟩) ?_ ?_
                            rotate_left
                            · intro w'
                              go_simp
                              with_reducible rfl
                            rotate_left
                            · simp only [Act.put, List.setIfInBounds_toArray, List.set_cons_zero, List.set_cons_succ, i64_w, i32_w]
                              rfl
                            refine pure_ (i := 20) (N := some 73) (v := ?_) (a' := ?_) #[true, true, true, true, true, true, true, true, true, true, true, true, true, true, true, true, true, true, true, true, true, false, false, false, false, false, false, false, false, false, false, false, false, false, false, false, false, false, false, false, false, false, false, false, false, false, false, false, false, false, false, false, false, false, false, false, false, false] rfl rfl (any_of HT_.out (by kernel_rfl)) (fun _ _ _ h => h) (Or.inl ⟨by rfl, ?_⟩) ?_ ?_
                            rotate_left
                            · intro w'
                              go_simp
                              with_reducible rfl
                            rotate_left
                            · simp only [Act.put, List.setIfInBounds_toArray, List.set_cons_zero, List.set_cons_succ, i64_w, i32_w]
                              rfl
                            refine pure_ (i := 21) (N := some 74) (v := ?_) (a' := ?_) #[true, true, true, true, true, true, true, true, true, true, true, true, true, true, true, true, true, true, true, true, true, true, false, false, false, false, false, false, false, false, false, false, false, false, false, false, false, false, false, false, false, false, false, false, false, false, false, false, false, false, false, false, false, false, false, false, false, false] rfl rfl (any_of HT_.out (by kernel_rfl)) (fun _ _ _ h => h) (Or.inl ⟨by rfl, ?_⟩) ?_ ?_
                            rotate_left
                            · intro w'
                              go_simp
                              with_reducible rfl
                            rotate_left
                            · simp only [Act.put, List.setIfInBounds_toArray, List.set_cons_zero, List.set_cons_succ, i64_w, i32_w]
                              rfl
                            refine pure_ (i := 24) (N := some 77) (v := ?_) (a' := ?_) #[true, true, true, true, true, true, true, true, true, true, true, true, true, true, true, true, true, true, true, true, true, true, false, false, true, false, false, false, false, false, false, false, false, false, false, false, false, false, false, false, false, false, false, false, false, false, false, false, false, false, false, false, false, false, false, false, false, false] rfl rfl (any_of HT_.out (by kernel_rfl)) (fun _ _ _ h => h) (Or.inl ⟨by rfl, ?_⟩) ?_ ?_
                            rotate_left
                            · intro w'
                              go_simp
                              with_reducible rfl
                            rotate_left
                            · simp only [Act.put, List.setIfInBounds_toArray, List.set_cons_zero, List.set_cons_succ, i64_w, i32_w]
                              rfl
                            refine pure_ (i := 26) (N := some 79) (v := ?_) (a' := ?_) #[true, true, true, true, true, true, true, true, true, true, true, true, true, true, true, true, true, true, true, true, true, true, false, false, true, false, true, false, false, false, false, false, false, false, false, false, false, false, false, false, false, false, false, false, false, false, false, false, false, false, false, false, false, false, false, false, false, false] rfl rfl (any_of HT_.out (by kernel_rfl)) (fun _ _ _ h => h) (Or.inl ⟨by rfl, ?_⟩) ?_ ?_
                            rotate_left
                            · intro w'
                              go_simp
                              with_reducible rfl
                            rotate_left
                            · simp only [Act.put, List.setIfInBounds_toArray, List.set_cons_zero, List.set_cons_succ, i64_w, i32_w]
                              rfl
                            refine one_ (i := 22) (N := some 75) #[true, true, true, true, true, true, true, true, true, true, true, true, true, true, true, true, true, true, true, true, true, true, true, false, true, false, true, false, false, false, false, false, false, false, false, false, false, false, false, false, false, false, false, false, false, false, false, false, false, false, false, false, false, false, false, false, false, false] rfl rfl (one_of HT_.out (by kernel_rfl)) (by decide) (fun K hK => ?_)
                            refine goes_ Tryd.func66 (by kernel_rfl) rfl #[.string (⟨#[97]⟩ : ByteArray)] (by rfl) rfl rfl (by (try simp only [List.map_toArray, List.map_cons, List.map_nil]); first | done | rfl | (simp only [List.length_drop, List.length_take]; rfl)) ?_
                            with_reducible refine (covenantlaw05_text.calls (⟨#[97]⟩ : ByteArray) t349 t350 t351 t352 _ A101.out).mono ?_
                            rintro e w138 ⟨rfl, hb⟩
                            refine ⟨_, rfl, ?_⟩
                            have n0_ := Aside0.mk (Kd.R_below (by (with_reducible repeat (first | apply Kd.R_alloc | apply Kd.R_drewN | apply Kd.R_drew)); exact HO_39.out) hb)
                            have n1_ := Aside0.mk (Kd.R_below (by (with_reducible repeat (first | apply Kd.R_alloc | apply Kd.R_drewN | apply Kd.R_drew)); exact HO323.out) hb)
                            have n2_ := Aside0.mk (Kd.R_below (by (with_reducible repeat (first | apply Kd.R_alloc | apply Kd.R_drewN | apply Kd.R_drew)); exact HO335.out) hb)
                            have n3_ := Aside0.mk (Kd.R_below (by (with_reducible repeat (first | apply Kd.R_alloc | apply Kd.R_drewN | apply Kd.R_drew)); exact HO339.out) hb)
                            have n4_ := Aside0.mk (Kd.R_below (by (with_reducible repeat (first | apply Kd.R_alloc | apply Kd.R_drewN | apply Kd.R_drew)); exact HO347.out) hb)
                            have n5_ := Aside0.mk (blk_below (g := gb324) (o := .cells #[.int .u8 1, .int .i64 0, .int .i64 0, .string (⟨#[120]⟩ : ByteArray)] 23 (0, 0)) (by (with_reducible repeat (first | refine blk_drewN ?_ _ | refine blk_drew ?_ | refine blk_alloc ?_ _)); exact BK324.out) hb)
                            have n6_ := Aside0.mk (below_step (by repeat (first | (with_reducible first | exact HB.out | apply below_alloc | apply pw_below_drewN | apply below_drew1 | refine below_set ?_ GE324.out) | exact HB.out)) hb)
                            clear HO_39
                            clear HO323
                            clear HO335
                            clear HO339
                            clear HO347
                            clear BK324
                            clear HB
                            have HO_39 := n0_
                            have HO323 := n1_
                            have HO335 := n2_
                            have HO339 := n3_
                            have HO347 := n4_
                            have BK324 := n5_
                            have HB := n6_
                            clear n0_ n1_ n2_ n3_ n4_ n5_ n6_
                            (try clear hb)
                            (try clear hb2)
                            (try clear hk)
                            (try clear hi)
                            refine hK.out _ _ ⟨(blk_cell BK324.out 0).trans rfl, (blk_cell BK324.out 1).trans rfl, (blk_cell BK324.out 2).trans rfl, (blk_cell BK324.out 3).trans rfl⟩ (fun hHeld => ?_)
                            clear hK K
                            refine norm_ (a' := ?_) ?_ ?_
                            rotate_left
                            · show Act.put _ (some 75) _ = _
                              simp only [Act.put, List.setIfInBounds_toArray, List.set_cons_zero, List.set_cons_succ, i64_w, i32_w]
                              rfl
                            refine one_ (i := 23) (N := some 76) #[true, true, true, true, true, true, true, true, true, true, true, true, true, true, true, true, true, true, true, true, true, true, true, true, true, false, true, false, false, false, false, false, false, false, false, false, false, false, false, false, false, false, false, false, false, false, false, false, false, false, false, false, false, false, false, false, false, false] rfl rfl (one_of HT_.out (by kernel_rfl)) (by decide) (fun K hK => ?_)
                            refine goes_ Tryd.func67 (by kernel_rfl) rfl #[.int .i64 1] (by rfl) rfl rfl (by (try simp only [List.map_toArray, List.map_cons, List.map_nil]); first | done | rfl | (simp only [List.length_drop, List.length_take]; rfl)) ?_
                            with_reducible refine (covenantlaw05_number.calls 1 t353 t354 t355 t356 _ A102.out).mono ?_
                            rintro e w139 ⟨rfl, hb⟩
                            refine ⟨_, rfl, ?_⟩
                            have n0_ := Aside0.mk (Kd.R_below (by (with_reducible repeat (first | apply Kd.R_alloc | apply Kd.R_drewN | apply Kd.R_drew)); exact HO_39.out) hb)
                            have n1_ := Aside0.mk (Kd.R_below (by (with_reducible repeat (first | apply Kd.R_alloc | apply Kd.R_drewN | apply Kd.R_drew)); exact HO323.out) hb)
                            have n2_ := Aside0.mk (Kd.R_below (by (with_reducible repeat (first | apply Kd.R_alloc | apply Kd.R_drewN | apply Kd.R_drew)); exact HO335.out) hb)
                            have n3_ := Aside0.mk (Kd.R_below (by (with_reducible repeat (first | apply Kd.R_alloc | apply Kd.R_drewN | apply Kd.R_drew)); exact HO339.out) hb)
                            have n4_ := Aside0.mk (Kd.R_below (by (with_reducible repeat (first | apply Kd.R_alloc | apply Kd.R_drewN | apply Kd.R_drew)); exact HO347.out) hb)
                            have n5_ := Aside0.mk (blk_below (g := gb324) (o := .cells #[.int .u8 1, .int .i64 0, .int .i64 0, .string (⟨#[120]⟩ : ByteArray)] 23 (0, 0)) (by (with_reducible repeat (first | refine blk_drewN ?_ _ | refine blk_drew ?_ | refine blk_alloc ?_ _)); exact BK324.out) hb)
                            have n6_ := Aside0.mk (below_step (by repeat (first | (with_reducible first | exact HB.out | apply below_alloc | apply pw_below_drewN | apply below_drew1 | refine below_set ?_ GE324.out) | exact HB.out)) hb)
                            clear HO_39
                            clear HO323
                            clear HO335
                            clear HO339
                            clear HO347
                            clear BK324
                            clear HB
                            have HO_39 := n0_
                            have HO323 := n1_
                            have HO335 := n2_
                            have HO339 := n3_
                            have HO347 := n4_
                            have BK324 := n5_
                            have HB := n6_
                            clear n0_ n1_ n2_ n3_ n4_ n5_ n6_
                            (try clear hb)
                            (try clear hb2)
                            (try clear hk)
                            (try clear hi)
                            refine hK.out _ _ ⟨(blk_cell BK324.out 0).trans rfl, (blk_cell BK324.out 1).trans rfl, (blk_cell BK324.out 2).trans rfl, (blk_cell BK324.out 3).trans rfl⟩ (fun hHeld => ?_)
                            clear hK K
                            refine norm_ (a' := ?_) ?_ ?_
                            rotate_left
                            · show Act.put _ (some 76) _ = _
                              simp only [Act.put, List.setIfInBounds_toArray, List.set_cons_zero, List.set_cons_succ, i64_w, i32_w]
                              rfl
                            refine one_ (i := 25) (N := some 78) #[true, true, true, true, true, true, true, true, true, true, true, true, true, true, true, true, true, true, true, true, true, true, true, true, true, true, true, false, false, false, false, false, false, false, false, false, false, false, false, false, false, false, false, false, false, false, false, false, false, false, false, false, false, false, false, false, false, false] rfl rfl (one_of HT_.out (by kernel_rfl)) (by decide) (fun K hK => ?_)
                            refine Kd.R_lit_step k23 _ 23 ?hg (N := 78) ?hd (xs := ([(⟨t349, t350, t351, t352⟩ : S23), (⟨t353, t354, t355, t356⟩ : S23), (⟨0, 0, 0, (⟨#[]⟩ : ByteArray)⟩ : S23)] : List (S23))) (inner := [.int .u8 t349, .int .i64 t350, .int .i64 t351, .string t352, .int .u8 t353, .int .i64 t354, .int .i64 t355, .string t356, .int .u8 0, .int .i64 0, .int .i64 0, .string (⟨#[]⟩ : ByteArray)]) (ok := fun _ => True) (okp := fun _ => True) ?hr ?hp (fun _ hk => hk) trivial (Below.refl _ _) (Nat.le_refl _) (by simp) ?_; (case hd => rfl); (case hg => rfl); (case hr => first | (go_simp; done) | (go_simp; rfl)); (case hp => exact (Reps.c4 (show Kd.M k23 _ _ _ (⟨t349, t350, t351, t352⟩ : S23) [.int .u8 t349, .int .i64 t350, .int .i64 t351, .string t352] from (k23_mkM _ _ _ (⟨t349, t350, t351, t352⟩ : S23) )) (Reps.c4 (show Kd.M k23 _ _ _ (⟨t353, t354, t355, t356⟩ : S23) [.int .u8 t353, .int .i64 t354, .int .i64 t355, .string t356] from (k23_mkM _ _ _ (⟨t353, t354, t355, t356⟩ : S23) )) (Reps.c4 (show Kd.M k23 _ _ _ (⟨0, 0, 0, (⟨#[]⟩ : ByteArray)⟩ : S23) [.int .u8 0, .int .i64 0, .int .i64 0, .string (⟨#[]⟩ : ByteArray)] from (k23_mkM _ _ _ (⟨0, 0, 0, (⟨#[]⟩ : ByteArray)⟩ : S23) )) (Reps.none _ _)))))
                            intro v358 w140 ho141 hb hg_ hnew_
                            clear hg_ hnew_
                            (first | rw [← Ny357.out] at ho141 | (simp only [Int.reduceToNat] at ho141; rw [← Ny357.out] at ho141))
                            have n0_ := Aside0.mk (Kd.R_below (by (with_reducible repeat (first | apply Kd.R_alloc | apply Kd.R_drewN | apply Kd.R_drew)); exact HO_39.out) hb)
                            have n1_ := Aside0.mk (Kd.R_below (by (with_reducible repeat (first | apply Kd.R_alloc | apply Kd.R_drewN | apply Kd.R_drew)); exact HO323.out) hb)
                            have n2_ := Aside0.mk (Kd.R_elder' (by (with_reducible repeat (first | apply Kd.R_alloc | apply Kd.R_drewN | apply Kd.R_drew)); exact HO335.out) (Kd.R_base ho141) hb)
                            have n3_ := Aside0.mk (Kd.R_elder' (by (with_reducible repeat (first | apply Kd.R_alloc | apply Kd.R_drewN | apply Kd.R_drew)); exact HO339.out) (Kd.R_base ho141) hb)
                            have n4_ := Aside0.mk (Kd.R_elder' (by (with_reducible repeat (first | apply Kd.R_alloc | apply Kd.R_drewN | apply Kd.R_drew)); exact HO347.out) (Kd.R_base ho141) hb)
                            have n5_ := Aside0.mk (Kd.R_lower (Kd.R_newB (Kd.R_new' (Kd.R_new' (Kd.R_new' ho141 (Kd.R_lt (by (with_reducible repeat (first | apply Kd.R_alloc | apply Kd.R_drewN | apply Kd.R_drew)); exact HO335.out))) (Kd.R_lt (by (with_reducible repeat (first | apply Kd.R_alloc | apply Kd.R_drewN | apply Kd.R_drew)); exact HO339.out))) (Kd.R_lt (by (with_reducible repeat (first | apply Kd.R_alloc | apply Kd.R_drewN | apply Kd.R_drew)); exact HO347.out))) (g := gb324) (o := .cells #[.int .u8 1, .int .i64 0, .int .i64 0, .string (⟨#[120]⟩ : ByteArray)] 23 (0, 0)) (by (with_reducible repeat (first | refine blk_drewN ?_ _ | refine blk_drew ?_ | refine blk_alloc ?_ _)); exact BK324.out)) (below_size (by repeat (first | (with_reducible first | exact HB.out | apply below_alloc | apply pw_below_drewN | apply below_drew1 | refine below_set ?_ GE324.out) | exact HB.out))))
                            have n6_ := Aside0.mk (blk_below (g := gb324) (o := .cells #[.int .u8 1, .int .i64 0, .int .i64 0, .string (⟨#[120]⟩ : ByteArray)] 23 (0, 0)) (by (with_reducible repeat (first | refine blk_drewN ?_ _ | refine blk_drew ?_ | refine blk_alloc ?_ _)); exact BK324.out) hb)
                            have n7_ := Aside0.mk (below_step (by repeat (first | (with_reducible first | exact HB.out | apply below_alloc | apply pw_below_drewN | apply below_drew1 | refine below_set ?_ GE324.out) | exact HB.out)) hb)
                            clear HO_39
                            clear HO323
                            clear HO335
                            clear HO339
                            clear HO347
                            clear BK324
                            clear HB
                            have HO_39 := n0_
                            have HO323 := n1_
                            have HO335 := n2_
                            have HO339 := n3_
                            have HO347 := n4_
                            have HO359 := n5_
                            have BK324 := n6_
                            have HB := n7_
                            clear n0_ n1_ n2_ n3_ n4_ n5_ n6_ n7_
                            clear hb ho141
                            obtain ⟨Ao142, co142, eo142⟩ := Kd.R_slice HO359.out
                            (first | subst eo142 | (injection eo142 with f1_ f2_ f3_; have f4_ := f1_.symm; have f5_ := f3_.symm; clear f1_ f2_ f3_; subst f4_; subst f5_))
                            refine hK.out _ _ ⟨(blk_cell BK324.out 0).trans rfl, (blk_cell BK324.out 1).trans rfl, (blk_cell BK324.out 2).trans rfl, (blk_cell BK324.out 3).trans rfl⟩ (fun hHeld => ?_)
                            clear hK K
                            refine norm_ (a' := ?_) ?_ ?_
                            rotate_left
                            · show Act.put _ (some 78) _ = _
                              simp only [Act.put, List.setIfInBounds_toArray, List.set_cons_zero, List.set_cons_succ, i64_w, i32_w]
                              rfl
                            refine one_ (i := 27) (N := some 80) #[true, true, true, true, true, true, true, true, true, true, true, true, true, true, true, true, true, true, true, true, true, true, true, true, true, true, true, true, false, false, false, false, false, false, false, false, false, false, false, false, false, false, false, false, false, false, false, false, false, false, false, false, false, false, false, false, false, false] rfl rfl (one_of HT_.out (by kernel_rfl)) (by decide) (fun K hK => ?_)
                            refine goes_ Tryd.func30 (by kernel_rfl) rfl #[.slice Ao142 y357.length co142, .slice Ao127 y321.length co127] (by rfl) rfl rfl (by (try simp only [List.map_toArray, List.map_cons, List.map_nil]); first | done | rfl | (simp only [List.length_drop, List.length_take]; rfl)) ?_
                            with_reducible refine (row_Fits.calls k2 _ _ y357 _ _ y321 t360 _ ?side1 ?side2 ?side3 ?side4 A103.out).mono ?_
                            (case side1 => repeat (first | exact (Kd.R_reads' HO359.out).2.2 | (with_reducible refine Kd.C_alloc ?_ _) | (with_reducible refine Kd.C_drewN ?_ _) | (with_reducible refine Kd.C_drew ?_)))
                            (case side2 => exact (Kd.R_reads' HO359.out).2.1)
                            (case side3 => repeat (first | exact (Kd.R_reads' HO323.out).2.2 | (with_reducible refine Kd.C_alloc ?_ _) | (with_reducible refine Kd.C_drewN ?_ _) | (with_reducible refine Kd.C_drew ?_)))
                            (case side4 => exact (Kd.R_reads' HO323.out).2.1)
                            rintro e w143 ⟨rfl, hb⟩
                            refine ⟨_, rfl, ?_⟩
                            have n0_ := Aside0.mk (Kd.R_below (by (with_reducible repeat (first | apply Kd.R_alloc | apply Kd.R_drewN | apply Kd.R_drew)); exact HO_39.out) hb)
                            have n1_ := Aside0.mk (Kd.R_below (by (with_reducible repeat (first | apply Kd.R_alloc | apply Kd.R_drewN | apply Kd.R_drew)); exact HO323.out) hb)
                            have n2_ := Aside0.mk (Kd.R_below (by (with_reducible repeat (first | apply Kd.R_alloc | apply Kd.R_drewN | apply Kd.R_drew)); exact HO335.out) hb)
                            have n3_ := Aside0.mk (Kd.R_below (by (with_reducible repeat (first | apply Kd.R_alloc | apply Kd.R_drewN | apply Kd.R_drew)); exact HO339.out) hb)
                            have n4_ := Aside0.mk (Kd.R_below (by (with_reducible repeat (first | apply Kd.R_alloc | apply Kd.R_drewN | apply Kd.R_drew)); exact HO347.out) hb)
                            have n5_ := Aside0.mk (Kd.R_below (by (with_reducible repeat (first | apply Kd.R_alloc | apply Kd.R_drewN | apply Kd.R_drew)); exact HO359.out) hb)
                            have n6_ := Aside0.mk (blk_below (g := gb324) (o := .cells #[.int .u8 1, .int .i64 0, .int .i64 0, .string (⟨#[120]⟩ : ByteArray)] 23 (0, 0)) (by (with_reducible repeat (first | refine blk_drewN ?_ _ | refine blk_drew ?_ | refine blk_alloc ?_ _)); exact BK324.out) hb)
                            have n7_ := Aside0.mk (below_step (by repeat (first | (with_reducible first | exact HB.out | apply below_alloc | apply pw_below_drewN | apply below_drew1 | refine below_set ?_ GE324.out) | exact HB.out)) hb)
                            clear HO_39
                            clear HO323
                            clear HO335
                            clear HO339
                            clear HO347
                            clear HO359
                            clear BK324
                            clear HB
                            have HO_39 := n0_
                            have HO323 := n1_
                            have HO335 := n2_
                            have HO339 := n3_
                            have HO347 := n4_
                            have HO359 := n5_
                            have BK324 := n6_
                            have HB := n7_
                            clear n0_ n1_ n2_ n3_ n4_ n5_ n6_ n7_
                            (try clear hb)
                            (try clear hb2)
                            (try clear hk)
                            (try clear hi)
                            refine hK.out _ _ ⟨(blk_cell BK324.out 0).trans rfl, (blk_cell BK324.out 1).trans rfl, (blk_cell BK324.out 2).trans rfl, (blk_cell BK324.out 3).trans rfl⟩ (fun hHeld => ?_)
                            clear hK K
                            refine norm_ (a' := ?_) ?_ ?_
                            rotate_left
                            · show Act.put _ (some 80) _ = _
                              simp only [Act.put, List.setIfInBounds_toArray, List.set_cons_zero, List.set_cons_succ, i64_w, i32_w]
                              rfl
                            refine pure_ (i := 28) (N := some 81) (v := ?_) (a' := ?_) #[true, true, true, true, true, true, true, true, true, true, true, true, true, true, true, true, true, true, true, true, true, true, true, true, true, true, true, true, true, false, false, false, false, false, false, false, false, false, false, false, false, false, false, false, false, false, false, false, false, false, false, false, false, false, false, false, false, false] rfl rfl (any_of HT_.out (by kernel_rfl)) (fun _ _ _ h => h) (Or.inl ⟨by rfl, ?_⟩) ?_ ?_
                            rotate_left
                            · intro w'
                              go_simp
                              with_reducible rfl
                            rotate_left
                            · simp only [Act.put, List.setIfInBounds_toArray, List.set_cons_zero, List.set_cons_succ, i64_w, i32_w]
                              rfl
                            refine pure_ (i := 29) (N := some 82) (v := ?_) (a' := ?_) #[true, true, true, true, true, true, true, true, true, true, true, true, true, true, true, true, true, true, true, true, true, true, true, true, true, true, true, true, true, true, false, false, false, false, false, false, false, false, false, false, false, false, false, false, false, false, false, false, false, false, false, false, false, false, false, false, false, false] rfl rfl (any_of HT_.out (by kernel_rfl)) (fun _ _ _ h => h) (Or.inl ⟨by rfl, ?_⟩) ?_ ?_
                            rotate_left
                            · intro w'
                              go_simp
                              with_reducible rfl
                            rotate_left
                            · simp only [Act.put, List.setIfInBounds_toArray, List.set_cons_zero, List.set_cons_succ, i64_w, i32_w]
                              rfl
                            refine pure_ (i := 30) (N := some 83) (v := ?_) (a' := ?_) #[true, true, true, true, true, true, true, true, true, true, true, true, true, true, true, true, true, true, true, true, true, true, true, true, true, true, true, true, true, true, true, false, false, false, false, false, false, false, false, false, false, false, false, false, false, false, false, false, false, false, false, false, false, false, false, false, false, false] rfl rfl (any_of HT_.out (by kernel_rfl)) (fun _ _ _ h => h) (Or.inl ⟨by rfl, ?_⟩) ?_ ?_
                            rotate_left
                            · intro w'
                              go_simp
                              with_reducible rfl
                            rotate_left
                            · simp only [Act.put, List.setIfInBounds_toArray, List.set_cons_zero, List.set_cons_succ, i64_w, i32_w]
                              rfl
                            refine pure_ (i := 34) (N := some 87) (v := ?_) (a' := ?_) #[true, true, true, true, true, true, true, true, true, true, true, true, true, true, true, true, true, true, true, true, true, true, true, true, true, true, true, true, true, true, true, false, false, false, true, false, false, false, false, false, false, false, false, false, false, false, false, false, false, false, false, false, false, false, false, false, false, false] rfl rfl (any_of HT_.out (by kernel_rfl)) (fun _ _ _ h => h) (Or.inl ⟨by rfl, ?_⟩) ?_ ?_
                            rotate_left
                            · intro w'
                              go_simp
                              with_reducible rfl
                            rotate_left
                            · simp only [Act.put, List.setIfInBounds_toArray, List.set_cons_zero, List.set_cons_succ, i64_w, i32_w]
                              rfl
                            refine one_ (i := 31) (N := some 84) #[true, true, true, true, true, true, true, true, true, true, true, true, true, true, true, true, true, true, true, true, true, true, true, true, true, true, true, true, true, true, true, true, false, false, true, false, false, false, false, false, false, false, false, false, false, false, false, false, false, false, false, false, false, false, false, false, false, false] rfl rfl (one_of HT_.out (by kernel_rfl)) (by decide) (fun K hK => ?_)
                            refine goes_ Tryd.func66 (by kernel_rfl) rfl #[.string (⟨#[]⟩ : ByteArray)] (by rfl) rfl rfl (by (try simp only [List.map_toArray, List.map_cons, List.map_nil]); first | done | rfl | (simp only [List.length_drop, List.length_take]; rfl)) ?_
                            with_reducible refine (covenantlaw05_text.calls (⟨#[]⟩ : ByteArray) t361 t362 t363 t364 _ A105.out).mono ?_
                            rintro e w144 ⟨rfl, hb⟩
                            refine ⟨_, rfl, ?_⟩
                            have n0_ := Aside0.mk (Kd.R_below (by (with_reducible repeat (first | apply Kd.R_alloc | apply Kd.R_drewN | apply Kd.R_drew)); exact HO_39.out) hb)
                            have n1_ := Aside0.mk (Kd.R_below (by (with_reducible repeat (first | apply Kd.R_alloc | apply Kd.R_drewN | apply Kd.R_drew)); exact HO323.out) hb)
                            have n2_ := Aside0.mk (Kd.R_below (by (with_reducible repeat (first | apply Kd.R_alloc | apply Kd.R_drewN | apply Kd.R_drew)); exact HO335.out) hb)
                            have n3_ := Aside0.mk (Kd.R_below (by (with_reducible repeat (first | apply Kd.R_alloc | apply Kd.R_drewN | apply Kd.R_drew)); exact HO339.out) hb)
                            have n4_ := Aside0.mk (Kd.R_below (by (with_reducible repeat (first | apply Kd.R_alloc | apply Kd.R_drewN | apply Kd.R_drew)); exact HO347.out) hb)
                            have n5_ := Aside0.mk (Kd.R_below (by (with_reducible repeat (first | apply Kd.R_alloc | apply Kd.R_drewN | apply Kd.R_drew)); exact HO359.out) hb)
                            have n6_ := Aside0.mk (blk_below (g := gb324) (o := .cells #[.int .u8 1, .int .i64 0, .int .i64 0, .string (⟨#[120]⟩ : ByteArray)] 23 (0, 0)) (by (with_reducible repeat (first | refine blk_drewN ?_ _ | refine blk_drew ?_ | refine blk_alloc ?_ _)); exact BK324.out) hb)
                            have n7_ := Aside0.mk (below_step (by repeat (first | (with_reducible first | exact HB.out | apply below_alloc | apply pw_below_drewN | apply below_drew1 | refine below_set ?_ GE324.out) | exact HB.out)) hb)
                            clear HO_39
                            clear HO323
                            clear HO335
                            clear HO339
                            clear HO347
                            clear HO359
                            clear BK324
                            clear HB
                            have HO_39 := n0_
                            have HO323 := n1_
                            have HO335 := n2_
                            have HO339 := n3_
                            have HO347 := n4_
                            have HO359 := n5_
                            have BK324 := n6_
                            have HB := n7_
                            clear n0_ n1_ n2_ n3_ n4_ n5_ n6_ n7_
                            (try clear hb)
                            (try clear hb2)
                            (try clear hk)
                            (try clear hi)
                            refine hK.out _ _ ⟨(blk_cell BK324.out 0).trans rfl, (blk_cell BK324.out 1).trans rfl, (blk_cell BK324.out 2).trans rfl, (blk_cell BK324.out 3).trans rfl⟩ (fun hHeld => ?_)
                            clear hK K
                            refine norm_ (a' := ?_) ?_ ?_
                            rotate_left
                            · show Act.put _ (some 84) _ = _
                              simp only [Act.put, List.setIfInBounds_toArray, List.set_cons_zero, List.set_cons_succ, i64_w, i32_w]
                              rfl
                            refine one_ (i := 32) (N := some 85) #[true, true, true, true, true, true, true, true, true, true, true, true, true, true, true, true, true, true, true, true, true, true, true, true, true, true, true, true, true, true, true, true, true, false, true, false, false, false, false, false, false, false, false, false, false, false, false, false, false, false, false, false, false, false, false, false, false, false] rfl rfl (one_of HT_.out (by kernel_rfl)) (by decide) (fun K hK => ?_)
                            refine goes_ Tryd.func67 (by kernel_rfl) rfl #[.int .i64 1] (by rfl) rfl rfl (by (try simp only [List.map_toArray, List.map_cons, List.map_nil]); first | done | rfl | (simp only [List.length_drop, List.length_take]; rfl)) ?_
                            with_reducible refine (covenantlaw05_number.calls 1 t365 t366 t367 t368 _ A106.out).mono ?_
                            rintro e w145 ⟨rfl, hb⟩
                            refine ⟨_, rfl, ?_⟩
                            have n0_ := Aside0.mk (Kd.R_below (by (with_reducible repeat (first | apply Kd.R_alloc | apply Kd.R_drewN | apply Kd.R_drew)); exact HO_39.out) hb)
                            have n1_ := Aside0.mk (Kd.R_below (by (with_reducible repeat (first | apply Kd.R_alloc | apply Kd.R_drewN | apply Kd.R_drew)); exact HO323.out) hb)
                            have n2_ := Aside0.mk (Kd.R_below (by (with_reducible repeat (first | apply Kd.R_alloc | apply Kd.R_drewN | apply Kd.R_drew)); exact HO335.out) hb)
                            have n3_ := Aside0.mk (Kd.R_below (by (with_reducible repeat (first | apply Kd.R_alloc | apply Kd.R_drewN | apply Kd.R_drew)); exact HO339.out) hb)
                            have n4_ := Aside0.mk (Kd.R_below (by (with_reducible repeat (first | apply Kd.R_alloc | apply Kd.R_drewN | apply Kd.R_drew)); exact HO347.out) hb)
                            have n5_ := Aside0.mk (Kd.R_below (by (with_reducible repeat (first | apply Kd.R_alloc | apply Kd.R_drewN | apply Kd.R_drew)); exact HO359.out) hb)
                            have n6_ := Aside0.mk (blk_below (g := gb324) (o := .cells #[.int .u8 1, .int .i64 0, .int .i64 0, .string (⟨#[120]⟩ : ByteArray)] 23 (0, 0)) (by (with_reducible repeat (first | refine blk_drewN ?_ _ | refine blk_drew ?_ | refine blk_alloc ?_ _)); exact BK324.out) hb)
                            have n7_ := Aside0.mk (below_step (by repeat (first | (with_reducible first | exact HB.out | apply below_alloc | apply pw_below_drewN | apply below_drew1 | refine below_set ?_ GE324.out) | exact HB.out)) hb)
                            clear HO_39
                            clear HO323
                            clear HO335
                            clear HO339
                            clear HO347
                            clear HO359
                            clear BK324
                            clear HB
                            have HO_39 := n0_
                            have HO323 := n1_
                            have HO335 := n2_
                            have HO339 := n3_
                            have HO347 := n4_
                            have HO359 := n5_
                            have BK324 := n6_
                            have HB := n7_
                            clear n0_ n1_ n2_ n3_ n4_ n5_ n6_ n7_
                            (try clear hb)
                            (try clear hb2)
                            (try clear hk)
                            (try clear hi)
                            refine hK.out _ _ ⟨(blk_cell BK324.out 0).trans rfl, (blk_cell BK324.out 1).trans rfl, (blk_cell BK324.out 2).trans rfl, (blk_cell BK324.out 3).trans rfl⟩ (fun hHeld => ?_)
                            clear hK K
                            refine norm_ (a' := ?_) ?_ ?_
                            rotate_left
                            · show Act.put _ (some 85) _ = _
                              simp only [Act.put, List.setIfInBounds_toArray, List.set_cons_zero, List.set_cons_succ, i64_w, i32_w]
                              rfl
                            refine one_ (i := 33) (N := some 86) #[true, true, true, true, true, true, true, true, true, true, true, true, true, true, true, true, true, true, true, true, true, true, true, true, true, true, true, true, true, true, true, true, true, true, true, false, false, false, false, false, false, false, false, false, false, false, false, false, false, false, false, false, false, false, false, false, false, false] rfl rfl (one_of HT_.out (by kernel_rfl)) (by decide) (fun K hK => ?_)
                            refine Kd.R_lit_step k23 _ 23 ?hg (N := 86) ?hd (xs := ([(⟨t361, t362, t363, t364⟩ : S23), (⟨t365, t366, t367, t368⟩ : S23)] : List (S23))) (inner := [.int .u8 t361, .int .i64 t362, .int .i64 t363, .string t364, .int .u8 t365, .int .i64 t366, .int .i64 t367, .string t368]) (ok := fun _ => True) (okp := fun _ => True) ?hr ?hp (fun _ hk => hk) trivial (Below.refl _ _) (Nat.le_refl _) (by simp) ?_; (case hd => rfl); (case hg => rfl); (case hr => first | (go_simp; done) | (go_simp; rfl)); (case hp => exact (Reps.c4 (show Kd.M k23 _ _ _ (⟨t361, t362, t363, t364⟩ : S23) [.int .u8 t361, .int .i64 t362, .int .i64 t363, .string t364] from (k23_mkM _ _ _ (⟨t361, t362, t363, t364⟩ : S23) )) (Reps.c4 (show Kd.M k23 _ _ _ (⟨t365, t366, t367, t368⟩ : S23) [.int .u8 t365, .int .i64 t366, .int .i64 t367, .string t368] from (k23_mkM _ _ _ (⟨t365, t366, t367, t368⟩ : S23) )) (Reps.none _ _))))
                            intro v370 w146 ho147 hb hg_ hnew_
                            clear hg_ hnew_
                            (first | rw [← Ny369.out] at ho147 | (simp only [Int.reduceToNat] at ho147; rw [← Ny369.out] at ho147))
                            have n0_ := Aside0.mk (Kd.R_below (by (with_reducible repeat (first | apply Kd.R_alloc | apply Kd.R_drewN | apply Kd.R_drew)); exact HO_39.out) hb)
                            have n1_ := Aside0.mk (Kd.R_below (by (with_reducible repeat (first | apply Kd.R_alloc | apply Kd.R_drewN | apply Kd.R_drew)); exact HO323.out) hb)
                            have n2_ := Aside0.mk (Kd.R_elder' (by (with_reducible repeat (first | apply Kd.R_alloc | apply Kd.R_drewN | apply Kd.R_drew)); exact HO335.out) (Kd.R_base ho147) hb)
                            have n3_ := Aside0.mk (Kd.R_elder' (by (with_reducible repeat (first | apply Kd.R_alloc | apply Kd.R_drewN | apply Kd.R_drew)); exact HO339.out) (Kd.R_base ho147) hb)
                            have n4_ := Aside0.mk (Kd.R_elder' (by (with_reducible repeat (first | apply Kd.R_alloc | apply Kd.R_drewN | apply Kd.R_drew)); exact HO347.out) (Kd.R_base ho147) hb)
                            have n5_ := Aside0.mk (Kd.R_elder' (by (with_reducible repeat (first | apply Kd.R_alloc | apply Kd.R_drewN | apply Kd.R_drew)); exact HO359.out) (Kd.R_base ho147) hb)
                            have n6_ := Aside0.mk (Kd.R_lower (Kd.R_newB (Kd.R_new' (Kd.R_new' (Kd.R_new' (Kd.R_new' ho147 (Kd.R_lt (by (with_reducible repeat (first | apply Kd.R_alloc | apply Kd.R_drewN | apply Kd.R_drew)); exact HO335.out))) (Kd.R_lt (by (with_reducible repeat (first | apply Kd.R_alloc | apply Kd.R_drewN | apply Kd.R_drew)); exact HO339.out))) (Kd.R_lt (by (with_reducible repeat (first | apply Kd.R_alloc | apply Kd.R_drewN | apply Kd.R_drew)); exact HO347.out))) (Kd.R_lt (by (with_reducible repeat (first | apply Kd.R_alloc | apply Kd.R_drewN | apply Kd.R_drew)); exact HO359.out))) (g := gb324) (o := .cells #[.int .u8 1, .int .i64 0, .int .i64 0, .string (⟨#[120]⟩ : ByteArray)] 23 (0, 0)) (by (with_reducible repeat (first | refine blk_drewN ?_ _ | refine blk_drew ?_ | refine blk_alloc ?_ _)); exact BK324.out)) (below_size (by repeat (first | (with_reducible first | exact HB.out | apply below_alloc | apply pw_below_drewN | apply below_drew1 | refine below_set ?_ GE324.out) | exact HB.out))))
                            have n7_ := Aside0.mk (blk_below (g := gb324) (o := .cells #[.int .u8 1, .int .i64 0, .int .i64 0, .string (⟨#[120]⟩ : ByteArray)] 23 (0, 0)) (by (with_reducible repeat (first | refine blk_drewN ?_ _ | refine blk_drew ?_ | refine blk_alloc ?_ _)); exact BK324.out) hb)
                            have n8_ := Aside0.mk (below_step (by repeat (first | (with_reducible first | exact HB.out | apply below_alloc | apply pw_below_drewN | apply below_drew1 | refine below_set ?_ GE324.out) | exact HB.out)) hb)
                            clear HO_39
                            clear HO323
                            clear HO335
                            clear HO339
                            clear HO347
                            clear HO359
                            clear BK324
                            clear HB
                            have HO_39 := n0_
                            have HO323 := n1_
                            have HO335 := n2_
                            have HO339 := n3_
                            have HO347 := n4_
                            have HO359 := n5_
                            have HO371 := n6_
                            have BK324 := n7_
                            have HB := n8_
                            clear n0_ n1_ n2_ n3_ n4_ n5_ n6_ n7_ n8_
                            clear hb ho147
                            obtain ⟨Ao148, co148, eo148⟩ := Kd.R_slice HO371.out
                            (first | subst eo148 | (injection eo148 with f1_ f2_ f3_; have f4_ := f1_.symm; have f5_ := f3_.symm; clear f1_ f2_ f3_; subst f4_; subst f5_))
                            refine hK.out _ _ ⟨(blk_cell BK324.out 0).trans rfl, (blk_cell BK324.out 1).trans rfl, (blk_cell BK324.out 2).trans rfl, (blk_cell BK324.out 3).trans rfl⟩ (fun hHeld => ?_)
                            clear hK K
                            refine norm_ (a' := ?_) ?_ ?_
                            rotate_left
                            · show Act.put _ (some 86) _ = _
                              simp only [Act.put, List.setIfInBounds_toArray, List.set_cons_zero, List.set_cons_succ, i64_w, i32_w]
                              rfl
                            refine one_ (i := 35) (N := some 88) #[true, true, true, true, true, true, true, true, true, true, true, true, true, true, true, true, true, true, true, true, true, true, true, true, true, true, true, true, true, true, true, true, true, true, true, true, false, false, false, false, false, false, false, false, false, false, false, false, false, false, false, false, false, false, false, false, false, false] rfl rfl (one_of HT_.out (by kernel_rfl)) (by decide) (fun K hK => ?_)
                            refine goes_ Tryd.func30 (by kernel_rfl) rfl #[.slice Ao148 y369.length co148, .slice Ao127 y321.length co127] (by rfl) rfl rfl (by (try simp only [List.map_toArray, List.map_cons, List.map_nil]); first | done | rfl | (simp only [List.length_drop, List.length_take]; rfl)) ?_
                            with_reducible refine (row_Fits.calls k2 _ _ y369 _ _ y321 t372 _ ?side1 ?side2 ?side3 ?side4 A107.out).mono ?_
                            (case side1 => repeat (first | exact (Kd.R_reads' HO371.out).2.2 | (with_reducible refine Kd.C_alloc ?_ _) | (with_reducible refine Kd.C_drewN ?_ _) | (with_reducible refine Kd.C_drew ?_)))
                            (case side2 => exact (Kd.R_reads' HO371.out).2.1)
                            (case side3 => repeat (first | exact (Kd.R_reads' HO323.out).2.2 | (with_reducible refine Kd.C_alloc ?_ _) | (with_reducible refine Kd.C_drewN ?_ _) | (with_reducible refine Kd.C_drew ?_)))
                            (case side4 => exact (Kd.R_reads' HO323.out).2.1)
                            rintro e w149 ⟨rfl, hb⟩
                            refine ⟨_, rfl, ?_⟩
                            have n0_ := Aside0.mk (Kd.R_below (by (with_reducible repeat (first | apply Kd.R_alloc | apply Kd.R_drewN | apply Kd.R_drew)); exact HO_39.out) hb)
                            have n1_ := Aside0.mk (Kd.R_below (by (with_reducible repeat (first | apply Kd.R_alloc | apply Kd.R_drewN | apply Kd.R_drew)); exact HO323.out) hb)
                            have n2_ := Aside0.mk (Kd.R_below (by (with_reducible repeat (first | apply Kd.R_alloc | apply Kd.R_drewN | apply Kd.R_drew)); exact HO335.out) hb)
                            have n3_ := Aside0.mk (Kd.R_below (by (with_reducible repeat (first | apply Kd.R_alloc | apply Kd.R_drewN | apply Kd.R_drew)); exact HO339.out) hb)
                            have n4_ := Aside0.mk (Kd.R_below (by (with_reducible repeat (first | apply Kd.R_alloc | apply Kd.R_drewN | apply Kd.R_drew)); exact HO347.out) hb)
                            have n5_ := Aside0.mk (Kd.R_below (by (with_reducible repeat (first | apply Kd.R_alloc | apply Kd.R_drewN | apply Kd.R_drew)); exact HO359.out) hb)
                            have n6_ := Aside0.mk (Kd.R_below (by (with_reducible repeat (first | apply Kd.R_alloc | apply Kd.R_drewN | apply Kd.R_drew)); exact HO371.out) hb)
                            have n7_ := Aside0.mk (blk_below (g := gb324) (o := .cells #[.int .u8 1, .int .i64 0, .int .i64 0, .string (⟨#[120]⟩ : ByteArray)] 23 (0, 0)) (by (with_reducible repeat (first | refine blk_drewN ?_ _ | refine blk_drew ?_ | refine blk_alloc ?_ _)); exact BK324.out) hb)
                            have n8_ := Aside0.mk (below_step (by repeat (first | (with_reducible first | exact HB.out | apply below_alloc | apply pw_below_drewN | apply below_drew1 | refine below_set ?_ GE324.out) | exact HB.out)) hb)
                            clear HO_39
                            clear HO323
                            clear HO335
                            clear HO339
                            clear HO347
                            clear HO359
                            clear HO371
                            clear BK324
                            clear HB
                            have HO_39 := n0_
                            have HO323 := n1_
                            have HO335 := n2_
                            have HO339 := n3_
                            have HO347 := n4_
                            have HO359 := n5_
                            have HO371 := n6_
                            have BK324 := n7_
                            have HB := n8_
                            clear n0_ n1_ n2_ n3_ n4_ n5_ n6_ n7_ n8_
                            (try clear hb)
                            (try clear hb2)
                            (try clear hk)
                            (try clear hi)
                            refine hK.out _ _ ⟨(blk_cell BK324.out 0).trans rfl, (blk_cell BK324.out 1).trans rfl, (blk_cell BK324.out 2).trans rfl, (blk_cell BK324.out 3).trans rfl⟩ (fun hHeld => ?_)
                            clear hK K
                            refine norm_ (a' := ?_) ?_ ?_
                            rotate_left
                            · show Act.put _ (some 88) _ = _
                              simp only [Act.put, List.setIfInBounds_toArray, List.set_cons_zero, List.set_cons_succ, i64_w, i32_w]
                              rfl
                            refine pure_ (i := 36) (N := some 89) (v := ?_) (a' := ?_) #[true, true, true, true, true, true, true, true, true, true, true, true, true, true, true, true, true, true, true, true, true, true, true, true, true, true, true, true, true, true, true, true, true, true, true, true, true, false, false, false, false, false, false, false, false, false, false, false, false, false, false, false, false, false, false, false, false, false] rfl rfl (any_of HT_.out (by kernel_rfl)) (fun _ _ _ h => h) (Or.inl ⟨by rfl, ?_⟩) ?_ ?_
                            rotate_left
                            · intro w'
                              go_simp
                              with_reducible rfl
                            rotate_left
                            · simp only [Act.put, List.setIfInBounds_toArray, List.set_cons_zero, List.set_cons_succ, i64_w, i32_w]
                              rfl
                            refine pure_ (i := 37) (N := some 90) (v := ?_) (a' := ?_) #[true, true, true, true, true, true, true, true, true, true, true, true, true, true, true, true, true, true, true, true, true, true, true, true, true, true, true, true, true, true, true, true, true, true, true, true, true, true, false, false, false, false, false, false, false, false, false, false, false, false, false, false, false, false, false, false, false, false] rfl rfl (any_of HT_.out (by kernel_rfl)) (fun _ _ _ h => h) (Or.inl ⟨by rfl, ?_⟩) ?_ ?_
                            rotate_left
                            · intro w'
                              go_simp
                              with_reducible rfl
                            rotate_left
                            · simp only [Act.put, List.setIfInBounds_toArray, List.set_cons_zero, List.set_cons_succ, i64_w, i32_w]
                              rfl
                            refine pure_ (i := 38) (N := some 91) (v := ?_) (a' := ?_) #[true, true, true, true, true, true, true, true, true, true, true, true, true, true, true, true, true, true, true, true, true, true, true, true, true, true, true, true, true, true, true, true, true, true, true, true, true, true, true, false, false, false, false, false, false, false, false, false, false, false, false, false, false, false, false, false, false, false] rfl rfl (any_of HT_.out (by kernel_rfl)) (fun _ _ _ h => h) (Or.inl ⟨by rfl, ?_⟩) ?_ ?_
                            rotate_left
                            · intro w'
                              go_simp
                              with_reducible rfl
                            rotate_left
                            · simp only [Act.put, List.setIfInBounds_toArray, List.set_cons_zero, List.set_cons_succ, i64_w, i32_w]
                              rfl
                            refine pure_ (i := 42) (N := some 95) (v := ?_) (a' := ?_) #[true, true, true, true, true, true, true, true, true, true, true, true, true, true, true, true, true, true, true, true, true, true, true, true, true, true, true, true, true, true, true, true, true, true, true, true, true, true, true, false, false, false, true, false, false, false, false, false, false, false, false, false, false, false, false, false, false, false] rfl rfl (any_of HT_.out (by kernel_rfl)) (fun _ _ _ h => h) (Or.inl ⟨by rfl, ?_⟩) ?_ ?_
                            rotate_left
                            · intro w'
                              go_simp
                              with_reducible rfl
                            rotate_left
                            · simp only [Act.put, List.setIfInBounds_toArray, List.set_cons_zero, List.set_cons_succ, i64_w, i32_w]
                              rfl
                            refine take_ (i := 39) (N := some 92) (v := ?_) (a' := ?_) #[true, true, true, true, true, true, true, true, true, true, true, true, true, true, true, true, true, true, true, true, true, true, true, true, true, true, true, true, true, true, true, true, true, true, true, true, true, true, true, true, false, false, true, false, false, false, false, false, false, false, false, false, false, false, false, false, false, false] rfl rfl (take_ofW HT_.out HW_.out (by kernel_rfl)) (fun _ _ _ h => h) (Or.inl ⟨by rfl, ?_⟩) hHeld ?_ ?_
                            rotate_left
                            · rintro w' ⟨s0, s1, s2, s3⟩
                              go_simp
                              with_reducible rfl
                            rotate_left
                            · simp only [Act.put, List.setIfInBounds_toArray, List.set_cons_zero, List.set_cons_succ, i64_w, i32_w]
                              rfl
                            refine one_ (i := 40) (N := some 93) #[true, true, true, true, true, true, true, true, true, true, true, true, true, true, true, true, true, true, true, true, true, true, true, true, true, true, true, true, true, true, true, true, true, true, true, true, true, true, true, true, true, false, true, false, false, false, false, false, false, false, false, false, false, false, false, false, false, false] rfl rfl (one_of HT_.out (by kernel_rfl)) (by decide) (fun K hK => ?_)
                            refine goes_ Tryd.func66 (by kernel_rfl) rfl #[.string (⟨#[]⟩ : ByteArray)] (by rfl) rfl rfl (by (try simp only [List.map_toArray, List.map_cons, List.map_nil]); first | done | rfl | (simp only [List.length_drop, List.length_take]; rfl)) ?_
                            with_reducible refine (covenantlaw05_text.calls (⟨#[]⟩ : ByteArray) t373 t374 t375 t376 _ A109.out).mono ?_
                            rintro e w150 ⟨rfl, hb⟩
                            refine ⟨_, rfl, ?_⟩
                            have n0_ := Aside0.mk (Kd.R_below (by (with_reducible repeat (first | apply Kd.R_alloc | apply Kd.R_drewN | apply Kd.R_drew)); exact HO_39.out) hb)
                            have n1_ := Aside0.mk (Kd.R_below (by (with_reducible repeat (first | apply Kd.R_alloc | apply Kd.R_drewN | apply Kd.R_drew)); exact HO323.out) hb)
                            have n2_ := Aside0.mk (Kd.R_below (by (with_reducible repeat (first | apply Kd.R_alloc | apply Kd.R_drewN | apply Kd.R_drew)); exact HO335.out) hb)
                            have n3_ := Aside0.mk (Kd.R_below (by (with_reducible repeat (first | apply Kd.R_alloc | apply Kd.R_drewN | apply Kd.R_drew)); exact HO339.out) hb)
                            have n4_ := Aside0.mk (Kd.R_below (by (with_reducible repeat (first | apply Kd.R_alloc | apply Kd.R_drewN | apply Kd.R_drew)); exact HO347.out) hb)
                            have n5_ := Aside0.mk (Kd.R_below (by (with_reducible repeat (first | apply Kd.R_alloc | apply Kd.R_drewN | apply Kd.R_drew)); exact HO359.out) hb)
                            have n6_ := Aside0.mk (Kd.R_below (by (with_reducible repeat (first | apply Kd.R_alloc | apply Kd.R_drewN | apply Kd.R_drew)); exact HO371.out) hb)
                            have n7_ := Aside0.mk (blk_below (g := gb324) (o := .cells #[.int .u8 1, .int .i64 0, .int .i64 0, .string (⟨#[120]⟩ : ByteArray)] 23 (0, 0)) (by (with_reducible repeat (first | refine blk_drewN ?_ _ | refine blk_drew ?_ | refine blk_alloc ?_ _)); exact BK324.out) hb)
                            have n8_ := Aside0.mk (below_step (by repeat (first | (with_reducible first | exact HB.out | apply below_alloc | apply pw_below_drewN | apply below_drew1 | refine below_set ?_ GE324.out) | exact HB.out)) hb)
                            clear HO_39
                            clear HO323
                            clear HO335
                            clear HO339
                            clear HO347
                            clear HO359
                            clear HO371
                            clear BK324
                            clear HB
                            have HO_39 := n0_
                            have HO323 := n1_
                            have HO335 := n2_
                            have HO339 := n3_
                            have HO347 := n4_
                            have HO359 := n5_
                            have HO371 := n6_
                            have BK324 := n7_
                            have HB := n8_
                            clear n0_ n1_ n2_ n3_ n4_ n5_ n6_ n7_ n8_
                            (try clear hb)
                            (try clear hb2)
                            (try clear hk)
                            (try clear hi)
                            refine hK.out _ _ ⟨(blk_cell BK324.out 0).trans rfl, (blk_cell BK324.out 1).trans rfl, (blk_cell BK324.out 2).trans rfl, (blk_cell BK324.out 3).trans rfl⟩ (fun hHeld => ?_)
                            clear hK K
                            refine norm_ (a' := ?_) ?_ ?_
                            rotate_left
                            · show Act.put _ (some 93) _ = _
                              simp only [Act.put, List.setIfInBounds_toArray, List.set_cons_zero, List.set_cons_succ, i64_w, i32_w]
                              rfl
                            refine one_ (i := 41) (N := some 94) #[true, true, true, true, true, true, true, true, true, true, true, true, true, true, true, true, true, true, true, true, true, true, true, true, true, true, true, true, true, true, true, true, true, true, true, true, true, true, true, true, true, true, true, false, false, false, false, false, false, false, false, false, false, false, false, false, false, false] rfl rfl (one_of HT_.out (by kernel_rfl)) (by decide) (fun K hK => ?_)
                            refine Kd.R_lit_step k23 _ 23 ?hg (N := 94) ?hd (xs := ([(⟨1, 0, 0, (⟨#[120]⟩ : ByteArray)⟩ : S23), (⟨t373, t374, t375, t376⟩ : S23)] : List (S23))) (inner := [.int .u8 1, .int .i64 0, .int .i64 0, .string (⟨#[120]⟩ : ByteArray), .int .u8 t373, .int .i64 t374, .int .i64 t375, .string t376]) (ok := fun _ => True) (okp := fun _ => True) ?hr ?hp (fun _ hk => hk) trivial (Below.refl _ _) (Nat.le_refl _) (by simp) ?_; (case hd => rfl); (case hg => rfl); (case hr => first | (go_simp; done) | (go_simp; rfl)); (case hp => exact (Reps.c4 (show Kd.M k23 _ _ _ (⟨1, 0, 0, (⟨#[120]⟩ : ByteArray)⟩ : S23) [.int .u8 1, .int .i64 0, .int .i64 0, .string (⟨#[120]⟩ : ByteArray)] from (k23_mkM _ _ _ (⟨1, 0, 0, (⟨#[120]⟩ : ByteArray)⟩ : S23) )) (Reps.c4 (show Kd.M k23 _ _ _ (⟨t373, t374, t375, t376⟩ : S23) [.int .u8 t373, .int .i64 t374, .int .i64 t375, .string t376] from (k23_mkM _ _ _ (⟨t373, t374, t375, t376⟩ : S23) )) (Reps.none _ _))))
                            intro v378 w151 ho152 hb hg_ hnew_
                            clear hg_ hnew_
                            (first | rw [← Ny377.out] at ho152 | (simp only [Int.reduceToNat] at ho152; rw [← Ny377.out] at ho152))
                            have n0_ := Aside0.mk (Kd.R_below (by (with_reducible repeat (first | apply Kd.R_alloc | apply Kd.R_drewN | apply Kd.R_drew)); exact HO_39.out) hb)
                            have n1_ := Aside0.mk (Kd.R_below (by (with_reducible repeat (first | apply Kd.R_alloc | apply Kd.R_drewN | apply Kd.R_drew)); exact HO323.out) hb)
                            have n2_ := Aside0.mk (Kd.R_elder' (by (with_reducible repeat (first | apply Kd.R_alloc | apply Kd.R_drewN | apply Kd.R_drew)); exact HO335.out) (Kd.R_base ho152) hb)
                            have n3_ := Aside0.mk (Kd.R_elder' (by (with_reducible repeat (first | apply Kd.R_alloc | apply Kd.R_drewN | apply Kd.R_drew)); exact HO339.out) (Kd.R_base ho152) hb)
                            have n4_ := Aside0.mk (Kd.R_elder' (by (with_reducible repeat (first | apply Kd.R_alloc | apply Kd.R_drewN | apply Kd.R_drew)); exact HO347.out) (Kd.R_base ho152) hb)
                            have n5_ := Aside0.mk (Kd.R_elder' (by (with_reducible repeat (first | apply Kd.R_alloc | apply Kd.R_drewN | apply Kd.R_drew)); exact HO359.out) (Kd.R_base ho152) hb)
                            have n6_ := Aside0.mk (Kd.R_elder' (by (with_reducible repeat (first | apply Kd.R_alloc | apply Kd.R_drewN | apply Kd.R_drew)); exact HO371.out) (Kd.R_base ho152) hb)
                            have n7_ := Aside0.mk (Kd.R_lower (Kd.R_newB (Kd.R_new' (Kd.R_new' (Kd.R_new' (Kd.R_new' (Kd.R_new' ho152 (Kd.R_lt (by (with_reducible repeat (first | apply Kd.R_alloc | apply Kd.R_drewN | apply Kd.R_drew)); exact HO335.out))) (Kd.R_lt (by (with_reducible repeat (first | apply Kd.R_alloc | apply Kd.R_drewN | apply Kd.R_drew)); exact HO339.out))) (Kd.R_lt (by (with_reducible repeat (first | apply Kd.R_alloc | apply Kd.R_drewN | apply Kd.R_drew)); exact HO347.out))) (Kd.R_lt (by (with_reducible repeat (first | apply Kd.R_alloc | apply Kd.R_drewN | apply Kd.R_drew)); exact HO359.out))) (Kd.R_lt (by (with_reducible repeat (first | apply Kd.R_alloc | apply Kd.R_drewN | apply Kd.R_drew)); exact HO371.out))) (g := gb324) (o := .cells #[.int .u8 1, .int .i64 0, .int .i64 0, .string (⟨#[120]⟩ : ByteArray)] 23 (0, 0)) (by (with_reducible repeat (first | refine blk_drewN ?_ _ | refine blk_drew ?_ | refine blk_alloc ?_ _)); exact BK324.out)) (below_size (by repeat (first | (with_reducible first | exact HB.out | apply below_alloc | apply pw_below_drewN | apply below_drew1 | refine below_set ?_ GE324.out) | exact HB.out))))
                            have n8_ := Aside0.mk (blk_below (g := gb324) (o := .cells #[.int .u8 1, .int .i64 0, .int .i64 0, .string (⟨#[120]⟩ : ByteArray)] 23 (0, 0)) (by (with_reducible repeat (first | refine blk_drewN ?_ _ | refine blk_drew ?_ | refine blk_alloc ?_ _)); exact BK324.out) hb)
                            have n9_ := Aside0.mk (below_step (by repeat (first | (with_reducible first | exact HB.out | apply below_alloc | apply pw_below_drewN | apply below_drew1 | refine below_set ?_ GE324.out) | exact HB.out)) hb)
                            clear HO_39
                            clear HO323
                            clear HO335
                            clear HO339
                            clear HO347
                            clear HO359
                            clear HO371
                            clear BK324
                            clear HB
                            have HO_39 := n0_
                            have HO323 := n1_
                            have HO335 := n2_
                            have HO339 := n3_
                            have HO347 := n4_
                            have HO359 := n5_
                            have HO371 := n6_
                            have HO379 := n7_
                            have BK324 := n8_
                            have HB := n9_
                            clear n0_ n1_ n2_ n3_ n4_ n5_ n6_ n7_ n8_ n9_
                            clear hb ho152
                            obtain ⟨Ao153, co153, eo153⟩ := Kd.R_slice HO379.out
                            (first | subst eo153 | (injection eo153 with f1_ f2_ f3_; have f4_ := f1_.symm; have f5_ := f3_.symm; clear f1_ f2_ f3_; subst f4_; subst f5_))
                            refine hK.out _ _ ⟨(blk_cell BK324.out 0).trans rfl, (blk_cell BK324.out 1).trans rfl, (blk_cell BK324.out 2).trans rfl, (blk_cell BK324.out 3).trans rfl⟩ (fun hHeld => ?_)
                            clear hK K
                            refine norm_ (a' := ?_) ?_ ?_
                            rotate_left
                            · show Act.put _ (some 94) _ = _
                              simp only [Act.put, List.setIfInBounds_toArray, List.set_cons_zero, List.set_cons_succ, i64_w, i32_w]
                              rfl
                            refine one_ (i := 43) (N := some 96) #[true, true, true, true, true, true, true, true, true, true, true, true, true, true, true, true, true, true, true, true, true, true, true, true, true, true, true, true, true, true, true, true, true, true, true, true, true, true, true, true, true, true, true, true, false, false, false, false, false, false, false, false, false, false, false, false, false, false] rfl rfl (one_of HT_.out (by kernel_rfl)) (by decide) (fun K hK => ?_)
                            refine goes_ Tryd.func30 (by kernel_rfl) rfl #[.slice Ao153 y377.length co153, .slice Ao127 y321.length co127] (by rfl) rfl rfl (by (try simp only [List.map_toArray, List.map_cons, List.map_nil]); first | done | rfl | (simp only [List.length_drop, List.length_take]; rfl)) ?_
                            with_reducible refine (row_Fits.calls k2 _ _ y377 _ _ y321 t380 _ ?side1 ?side2 ?side3 ?side4 A110.out).mono ?_
                            (case side1 => repeat (first | exact (Kd.R_reads' HO379.out).2.2 | (with_reducible refine Kd.C_alloc ?_ _) | (with_reducible refine Kd.C_drewN ?_ _) | (with_reducible refine Kd.C_drew ?_)))
                            (case side2 => exact (Kd.R_reads' HO379.out).2.1)
                            (case side3 => repeat (first | exact (Kd.R_reads' HO323.out).2.2 | (with_reducible refine Kd.C_alloc ?_ _) | (with_reducible refine Kd.C_drewN ?_ _) | (with_reducible refine Kd.C_drew ?_)))
                            (case side4 => exact (Kd.R_reads' HO323.out).2.1)
                            rintro e w154 ⟨rfl, hb⟩
                            refine ⟨_, rfl, ?_⟩
                            have n0_ := Aside0.mk (Kd.R_below (by (with_reducible repeat (first | apply Kd.R_alloc | apply Kd.R_drewN | apply Kd.R_drew)); exact HO_39.out) hb)
                            have n1_ := Aside0.mk (Kd.R_below (by (with_reducible repeat (first | apply Kd.R_alloc | apply Kd.R_drewN | apply Kd.R_drew)); exact HO323.out) hb)
                            have n2_ := Aside0.mk (Kd.R_below (by (with_reducible repeat (first | apply Kd.R_alloc | apply Kd.R_drewN | apply Kd.R_drew)); exact HO335.out) hb)
                            have n3_ := Aside0.mk (Kd.R_below (by (with_reducible repeat (first | apply Kd.R_alloc | apply Kd.R_drewN | apply Kd.R_drew)); exact HO339.out) hb)
                            have n4_ := Aside0.mk (Kd.R_below (by (with_reducible repeat (first | apply Kd.R_alloc | apply Kd.R_drewN | apply Kd.R_drew)); exact HO347.out) hb)
                            have n5_ := Aside0.mk (Kd.R_below (by (with_reducible repeat (first | apply Kd.R_alloc | apply Kd.R_drewN | apply Kd.R_drew)); exact HO359.out) hb)
                            have n6_ := Aside0.mk (Kd.R_below (by (with_reducible repeat (first | apply Kd.R_alloc | apply Kd.R_drewN | apply Kd.R_drew)); exact HO371.out) hb)
                            have n7_ := Aside0.mk (Kd.R_below (by (with_reducible repeat (first | apply Kd.R_alloc | apply Kd.R_drewN | apply Kd.R_drew)); exact HO379.out) hb)
                            have n8_ := Aside0.mk (blk_below (g := gb324) (o := .cells #[.int .u8 1, .int .i64 0, .int .i64 0, .string (⟨#[120]⟩ : ByteArray)] 23 (0, 0)) (by (with_reducible repeat (first | refine blk_drewN ?_ _ | refine blk_drew ?_ | refine blk_alloc ?_ _)); exact BK324.out) hb)
                            have n9_ := Aside0.mk (below_step (by repeat (first | (with_reducible first | exact HB.out | apply below_alloc | apply pw_below_drewN | apply below_drew1 | refine below_set ?_ GE324.out) | exact HB.out)) hb)
                            clear HO_39
                            clear HO323
                            clear HO335
                            clear HO339
                            clear HO347
                            clear HO359
                            clear HO371
                            clear HO379
                            clear BK324
                            clear HB
                            have HO_39 := n0_
                            have HO323 := n1_
                            have HO335 := n2_
                            have HO339 := n3_
                            have HO347 := n4_
                            have HO359 := n5_
                            have HO371 := n6_
                            have HO379 := n7_
                            have BK324 := n8_
                            have HB := n9_
                            clear n0_ n1_ n2_ n3_ n4_ n5_ n6_ n7_ n8_ n9_
                            (try clear hb)
                            (try clear hb2)
                            (try clear hk)
                            (try clear hi)
                            refine hK.out _ _ ⟨(blk_cell BK324.out 0).trans rfl, (blk_cell BK324.out 1).trans rfl, (blk_cell BK324.out 2).trans rfl, (blk_cell BK324.out 3).trans rfl⟩ (fun hHeld => ?_)
                            clear hK K
                            refine norm_ (a' := ?_) ?_ ?_
                            rotate_left
                            · show Act.put _ (some 96) _ = _
                              simp only [Act.put, List.setIfInBounds_toArray, List.set_cons_zero, List.set_cons_succ, i64_w, i32_w]
                              rfl
                            refine pure_ (i := 44) (N := some 97) (v := ?_) (a' := ?_) #[true, true, true, true, true, true, true, true, true, true, true, true, true, true, true, true, true, true, true, true, true, true, true, true, true, true, true, true, true, true, true, true, true, true, true, true, true, true, true, true, true, true, true, true, true, false, false, false, false, false, false, false, false, false, false, false, false, false] rfl rfl (any_of HT_.out (by kernel_rfl)) (fun _ _ _ h => h) (Or.inl ⟨by rfl, ?_⟩) ?_ ?_
                            rotate_left
                            · intro w'
                              go_simp
                              with_reducible rfl
                            rotate_left
                            · simp only [Act.put, List.setIfInBounds_toArray, List.set_cons_zero, List.set_cons_succ, i64_w, i32_w]
                              rfl
                            refine pure_ (i := 45) (N := some 98) (v := ?_) (a' := ?_) #[true, true, true, true, true, true, true, true, true, true, true, true, true, true, true, true, true, true, true, true, true, true, true, true, true, true, true, true, true, true, true, true, true, true, true, true, true, true, true, true, true, true, true, true, true, true, false, false, false, false, false, false, false, false, false, false, false, false] rfl rfl (any_of HT_.out (by kernel_rfl)) (fun _ _ _ h => h) (Or.inl ⟨by rfl, ?_⟩) ?_ ?_
                            rotate_left
                            · intro w'
                              go_simp
                              with_reducible rfl
                            rotate_left
                            · simp only [Act.put, List.setIfInBounds_toArray, List.set_cons_zero, List.set_cons_succ, i64_w, i32_w]
                              rfl
                            refine pure_ (i := 46) (N := some 99) (v := ?_) (a' := ?_) #[true, true, true, true, true, true, true, true, true, true, true, true, true, true, true, true, true, true, true, true, true, true, true, true, true, true, true, true, true, true, true, true, true, true, true, true, true, true, true, true, true, true, true, true, true, true, true, false, false, false, false, false, false, false, false, false, false, false] rfl rfl (any_of HT_.out (by kernel_rfl)) (fun _ _ _ h => h) (Or.inl ⟨by rfl, ?_⟩) ?_ ?_
                            rotate_left
                            · intro w'
                              go_simp
                              with_reducible rfl
                            rotate_left
                            · simp only [Act.put, List.setIfInBounds_toArray, List.set_cons_zero, List.set_cons_succ, i64_w, i32_w]
                              rfl
                            refine one_ (i := 47) (N := some 100) #[true, true, true, true, true, true, true, true, true, true, true, true, true, true, true, true, true, true, true, true, true, true, true, true, true, true, true, true, true, true, true, true, true, true, true, true, true, true, true, true, true, true, true, true, true, true, true, true, false, false, false, false, false, false, false, false, false, false] rfl rfl (one_of HT_.out (by kernel_rfl)) (by decide) (fun K hK => ?_)
                            refine goes_ Tryd.func30 (by kernel_rfl) rfl #[.slice none 0 0, .slice none 0 0] (by rfl) rfl rfl (by (try simp only [List.map_toArray, List.map_cons, List.map_nil]); first | done | rfl | (simp only [List.length_drop, List.length_take]; rfl)) ?_
                            refine (row_Fits.calls k2 _ _ ([] : List (S23)) _ _ ([] : List (S65)) t381 _ ?side1 ?side2 ?side3 ?side4 A112.out).mono ?_
                            (case side1 => exact Kd.C_nil _ _)
                            (case side2 => exact Nat.le_refl _)
                            (case side3 => exact Kd.C_nil _ _)
                            (case side4 => exact Nat.le_refl _)
                            rintro e w155 ⟨rfl, hb⟩
                            refine ⟨_, rfl, ?_⟩
                            have n0_ := Aside0.mk (Kd.R_below (by (with_reducible repeat (first | apply Kd.R_alloc | apply Kd.R_drewN | apply Kd.R_drew)); exact HO_39.out) hb)
                            have n1_ := Aside0.mk (Kd.R_below (by (with_reducible repeat (first | apply Kd.R_alloc | apply Kd.R_drewN | apply Kd.R_drew)); exact HO323.out) hb)
                            have n2_ := Aside0.mk (Kd.R_below (by (with_reducible repeat (first | apply Kd.R_alloc | apply Kd.R_drewN | apply Kd.R_drew)); exact HO335.out) hb)
                            have n3_ := Aside0.mk (Kd.R_below (by (with_reducible repeat (first | apply Kd.R_alloc | apply Kd.R_drewN | apply Kd.R_drew)); exact HO339.out) hb)
                            have n4_ := Aside0.mk (Kd.R_below (by (with_reducible repeat (first | apply Kd.R_alloc | apply Kd.R_drewN | apply Kd.R_drew)); exact HO347.out) hb)
                            have n5_ := Aside0.mk (Kd.R_below (by (with_reducible repeat (first | apply Kd.R_alloc | apply Kd.R_drewN | apply Kd.R_drew)); exact HO359.out) hb)
                            have n6_ := Aside0.mk (Kd.R_below (by (with_reducible repeat (first | apply Kd.R_alloc | apply Kd.R_drewN | apply Kd.R_drew)); exact HO371.out) hb)
                            have n7_ := Aside0.mk (Kd.R_below (by (with_reducible repeat (first | apply Kd.R_alloc | apply Kd.R_drewN | apply Kd.R_drew)); exact HO379.out) hb)
                            have n8_ := Aside0.mk (blk_below (g := gb324) (o := .cells #[.int .u8 1, .int .i64 0, .int .i64 0, .string (⟨#[120]⟩ : ByteArray)] 23 (0, 0)) (by (with_reducible repeat (first | refine blk_drewN ?_ _ | refine blk_drew ?_ | refine blk_alloc ?_ _)); exact BK324.out) hb)
                            have n9_ := Aside0.mk (below_step (by repeat (first | (with_reducible first | exact HB.out | apply below_alloc | apply pw_below_drewN | apply below_drew1 | refine below_set ?_ GE324.out) | exact HB.out)) hb)
                            clear HO_39
                            clear HO323
                            clear HO335
                            clear HO339
                            clear HO347
                            clear HO359
                            clear HO371
                            clear HO379
                            clear BK324
                            clear HB
                            have HO_39 := n0_
                            have HO323 := n1_
                            have HO335 := n2_
                            have HO339 := n3_
                            have HO347 := n4_
                            have HO359 := n5_
                            have HO371 := n6_
                            have HO379 := n7_
                            have BK324 := n8_
                            have HB := n9_
                            clear n0_ n1_ n2_ n3_ n4_ n5_ n6_ n7_ n8_ n9_
                            (try clear hb)
                            (try clear hb2)
                            (try clear hk)
                            (try clear hi)
                            refine hK.out _ _ ⟨(blk_cell BK324.out 0).trans rfl, (blk_cell BK324.out 1).trans rfl, (blk_cell BK324.out 2).trans rfl, (blk_cell BK324.out 3).trans rfl⟩ (fun hHeld => ?_)
                            clear hK K
                            refine norm_ (a' := ?_) ?_ ?_
                            rotate_left
                            · show Act.put _ (some 100) _ = _
                              simp only [Act.put, List.setIfInBounds_toArray, List.set_cons_zero, List.set_cons_succ, i64_w, i32_w]
                              rfl
                            refine pure_ (i := 48) (N := some 101) (v := ?_) (a' := ?_) #[true, true, true, true, true, true, true, true, true, true, true, true, true, true, true, true, true, true, true, true, true, true, true, true, true, true, true, true, true, true, true, true, true, true, true, true, true, true, true, true, true, true, true, true, true, true, true, true, true, false, false, false, false, false, false, false, false, false] rfl rfl (any_of HT_.out (by kernel_rfl)) (fun _ _ _ h => h) (Or.inl ⟨by rfl, ?_⟩) ?_ ?_
                            rotate_left
                            · intro w'
                              go_simp
                              with_reducible rfl
                            rotate_left
                            · simp only [Act.put, List.setIfInBounds_toArray, List.set_cons_zero, List.set_cons_succ, i64_w, i32_w]
                              rfl
                            refine pure_ (i := 49) (N := some 102) (v := ?_) (a' := ?_) #[true, true, true, true, true, true, true, true, true, true, true, true, true, true, true, true, true, true, true, true, true, true, true, true, true, true, true, true, true, true, true, true, true, true, true, true, true, true, true, true, true, true, true, true, true, true, true, true, true, true, false, false, false, false, false, false, false, false] rfl rfl (any_of HT_.out (by kernel_rfl)) (fun _ _ _ h => h) (Or.inl ⟨by rfl, ?_⟩) ?_ ?_
                            rotate_left
                            · intro w'
                              go_simp
                              with_reducible rfl
                            rotate_left
                            · simp only [Act.put, List.setIfInBounds_toArray, List.set_cons_zero, List.set_cons_succ, i64_w, i32_w]
                              rfl
                            refine pure_ (i := 50) (N := some 103) (v := ?_) (a' := ?_) #[true, true, true, true, true, true, true, true, true, true, true, true, true, true, true, true, true, true, true, true, true, true, true, true, true, true, true, true, true, true, true, true, true, true, true, true, true, true, true, true, true, true, true, true, true, true, true, true, true, true, true, false, false, false, false, false, false, false] rfl rfl (any_of HT_.out (by kernel_rfl)) (fun _ _ _ h => h) (Or.inl ⟨by rfl, ?_⟩) ?_ ?_
                            rotate_left
                            · intro w'
                              go_simp
                              with_reducible rfl
                            rotate_left
                            · simp only [Act.put, List.setIfInBounds_toArray, List.set_cons_zero, List.set_cons_succ, i64_w, i32_w]
                              rfl
                            refine take_ (i := 52) (N := some 105) (v := ?_) (a' := ?_) #[true, true, true, true, true, true, true, true, true, true, true, true, true, true, true, true, true, true, true, true, true, true, true, true, true, true, true, true, true, true, true, true, true, true, true, true, true, true, true, true, true, true, true, true, true, true, true, true, true, true, true, false, true, false, false, false, false, false] rfl rfl (take_ofW HT_.out HW_.out (by kernel_rfl)) (fun _ _ _ h => h) (Or.inl ⟨by rfl, ?_⟩) hHeld ?_ ?_
                            rotate_left
                            · rintro w' ⟨s0, s1, s2, s3⟩
                              go_simp
                              with_reducible rfl
                            rotate_left
                            · simp only [Act.put, List.setIfInBounds_toArray, List.set_cons_zero, List.set_cons_succ, i64_w, i32_w]
                              rfl
                            refine one_ (i := 51) (N := some 104) #[true, true, true, true, true, true, true, true, true, true, true, true, true, true, true, true, true, true, true, true, true, true, true, true, true, true, true, true, true, true, true, true, true, true, true, true, true, true, true, true, true, true, true, true, true, true, true, true, true, true, true, true, true, false, false, false, false, false] rfl rfl (one_of HT_.out (by kernel_rfl)) (by decide) (fun K hK => ?_)
                            refine goes_ Tryd.func67 (by kernel_rfl) rfl #[.int .i64 1] (by rfl) rfl rfl (by (try simp only [List.map_toArray, List.map_cons, List.map_nil]); first | done | rfl | (simp only [List.length_drop, List.length_take]; rfl)) ?_
                            with_reducible refine (covenantlaw05_number.calls 1 t382 t383 t384 t385 _ A114.out).mono ?_
                            rintro e w156 ⟨rfl, hb⟩
                            refine ⟨_, rfl, ?_⟩
                            have n0_ := Aside0.mk (Kd.R_below (by (with_reducible repeat (first | apply Kd.R_alloc | apply Kd.R_drewN | apply Kd.R_drew)); exact HO_39.out) hb)
                            have n1_ := Aside0.mk (Kd.R_below (by (with_reducible repeat (first | apply Kd.R_alloc | apply Kd.R_drewN | apply Kd.R_drew)); exact HO323.out) hb)
                            have n2_ := Aside0.mk (Kd.R_below (by (with_reducible repeat (first | apply Kd.R_alloc | apply Kd.R_drewN | apply Kd.R_drew)); exact HO335.out) hb)
                            have n3_ := Aside0.mk (Kd.R_below (by (with_reducible repeat (first | apply Kd.R_alloc | apply Kd.R_drewN | apply Kd.R_drew)); exact HO339.out) hb)
                            have n4_ := Aside0.mk (Kd.R_below (by (with_reducible repeat (first | apply Kd.R_alloc | apply Kd.R_drewN | apply Kd.R_drew)); exact HO347.out) hb)
                            have n5_ := Aside0.mk (Kd.R_below (by (with_reducible repeat (first | apply Kd.R_alloc | apply Kd.R_drewN | apply Kd.R_drew)); exact HO359.out) hb)
                            have n6_ := Aside0.mk (Kd.R_below (by (with_reducible repeat (first | apply Kd.R_alloc | apply Kd.R_drewN | apply Kd.R_drew)); exact HO371.out) hb)
                            have n7_ := Aside0.mk (Kd.R_below (by (with_reducible repeat (first | apply Kd.R_alloc | apply Kd.R_drewN | apply Kd.R_drew)); exact HO379.out) hb)
                            have n8_ := Aside0.mk (blk_below (g := gb324) (o := .cells #[.int .u8 1, .int .i64 0, .int .i64 0, .string (⟨#[120]⟩ : ByteArray)] 23 (0, 0)) (by (with_reducible repeat (first | refine blk_drewN ?_ _ | refine blk_drew ?_ | refine blk_alloc ?_ _)); exact BK324.out) hb)
                            have n9_ := Aside0.mk (below_step (by repeat (first | (with_reducible first | exact HB.out | apply below_alloc | apply pw_below_drewN | apply below_drew1 | refine below_set ?_ GE324.out) | exact HB.out)) hb)
                            clear HO_39
                            clear HO323
                            clear HO335
                            clear HO339
                            clear HO347
                            clear HO359
                            clear HO371
                            clear HO379
                            clear BK324
                            clear HB
                            have HO_39 := n0_
                            have HO323 := n1_
                            have HO335 := n2_
                            have HO339 := n3_
                            have HO347 := n4_
                            have HO359 := n5_
                            have HO371 := n6_
                            have HO379 := n7_
                            have BK324 := n8_
                            have HB := n9_
                            clear n0_ n1_ n2_ n3_ n4_ n5_ n6_ n7_ n8_ n9_
                            (try clear hb)
                            (try clear hb2)
                            (try clear hk)
                            (try clear hi)
                            refine hK.out _ _ ⟨(blk_cell BK324.out 0).trans rfl, (blk_cell BK324.out 1).trans rfl, (blk_cell BK324.out 2).trans rfl, (blk_cell BK324.out 3).trans rfl⟩ (fun hHeld => ?_)
                            clear hK K
                            refine norm_ (a' := ?_) ?_ ?_
                            rotate_left
                            · show Act.put _ (some 104) _ = _
                              simp only [Act.put, List.setIfInBounds_toArray, List.set_cons_zero, List.set_cons_succ, i64_w, i32_w]
                              rfl
                            refine one_ (i := 53) (N := some 106) #[true, true, true, true, true, true, true, true, true, true, true, true, true, true, true, true, true, true, true, true, true, true, true, true, true, true, true, true, true, true, true, true, true, true, true, true, true, true, true, true, true, true, true, true, true, true, true, true, true, true, true, true, true, true, false, false, false, false] rfl rfl (one_of HT_.out (by kernel_rfl)) (by decide) (fun K hK => ?_)
                            refine Kd.R_lit_step k23 _ 23 ?hg (N := 106) ?hd (xs := ([(⟨t382, t383, t384, t385⟩ : S23), (⟨1, 0, 0, (⟨#[120]⟩ : ByteArray)⟩ : S23)] : List (S23))) (inner := [.int .u8 t382, .int .i64 t383, .int .i64 t384, .string t385, .int .u8 1, .int .i64 0, .int .i64 0, .string (⟨#[120]⟩ : ByteArray)]) (ok := fun _ => True) (okp := fun _ => True) ?hr ?hp (fun _ hk => hk) trivial (Below.refl _ _) (Nat.le_refl _) (by simp) ?_; (case hd => rfl); (case hg => rfl); (case hr => first | (go_simp; done) | (go_simp; rfl)); (case hp => exact (Reps.c4 (show Kd.M k23 _ _ _ (⟨t382, t383, t384, t385⟩ : S23) [.int .u8 t382, .int .i64 t383, .int .i64 t384, .string t385] from (k23_mkM _ _ _ (⟨t382, t383, t384, t385⟩ : S23) )) (Reps.c4 (show Kd.M k23 _ _ _ (⟨1, 0, 0, (⟨#[120]⟩ : ByteArray)⟩ : S23) [.int .u8 1, .int .i64 0, .int .i64 0, .string (⟨#[120]⟩ : ByteArray)] from (k23_mkM _ _ _ (⟨1, 0, 0, (⟨#[120]⟩ : ByteArray)⟩ : S23) )) (Reps.none _ _))))
                            intro v387 w157 ho158 hb hg_ hnew_
                            clear hg_ hnew_
                            (first | rw [← Ny386.out] at ho158 | (simp only [Int.reduceToNat] at ho158; rw [← Ny386.out] at ho158))
                            have n0_ := Aside0.mk (Kd.R_below (by (with_reducible repeat (first | apply Kd.R_alloc | apply Kd.R_drewN | apply Kd.R_drew)); exact HO_39.out) hb)
                            have n1_ := Aside0.mk (Kd.R_below (by (with_reducible repeat (first | apply Kd.R_alloc | apply Kd.R_drewN | apply Kd.R_drew)); exact HO323.out) hb)
                            have n2_ := Aside0.mk (Kd.R_elder' (by (with_reducible repeat (first | apply Kd.R_alloc | apply Kd.R_drewN | apply Kd.R_drew)); exact HO335.out) (Kd.R_base ho158) hb)
                            have n3_ := Aside0.mk (Kd.R_elder' (by (with_reducible repeat (first | apply Kd.R_alloc | apply Kd.R_drewN | apply Kd.R_drew)); exact HO339.out) (Kd.R_base ho158) hb)
                            have n4_ := Aside0.mk (Kd.R_elder' (by (with_reducible repeat (first | apply Kd.R_alloc | apply Kd.R_drewN | apply Kd.R_drew)); exact HO347.out) (Kd.R_base ho158) hb)
                            have n5_ := Aside0.mk (Kd.R_elder' (by (with_reducible repeat (first | apply Kd.R_alloc | apply Kd.R_drewN | apply Kd.R_drew)); exact HO359.out) (Kd.R_base ho158) hb)
                            have n6_ := Aside0.mk (Kd.R_elder' (by (with_reducible repeat (first | apply Kd.R_alloc | apply Kd.R_drewN | apply Kd.R_drew)); exact HO371.out) (Kd.R_base ho158) hb)
                            have n7_ := Aside0.mk (Kd.R_elder' (by (with_reducible repeat (first | apply Kd.R_alloc | apply Kd.R_drewN | apply Kd.R_drew)); exact HO379.out) (Kd.R_base ho158) hb)
                            have n8_ := Aside0.mk (Kd.R_lower (Kd.R_newB (Kd.R_new' (Kd.R_new' (Kd.R_new' (Kd.R_new' (Kd.R_new' (Kd.R_new' ho158 (Kd.R_lt (by (with_reducible repeat (first | apply Kd.R_alloc | apply Kd.R_drewN | apply Kd.R_drew)); exact HO335.out))) (Kd.R_lt (by (with_reducible repeat (first | apply Kd.R_alloc | apply Kd.R_drewN | apply Kd.R_drew)); exact HO339.out))) (Kd.R_lt (by (with_reducible repeat (first | apply Kd.R_alloc | apply Kd.R_drewN | apply Kd.R_drew)); exact HO347.out))) (Kd.R_lt (by (with_reducible repeat (first | apply Kd.R_alloc | apply Kd.R_drewN | apply Kd.R_drew)); exact HO359.out))) (Kd.R_lt (by (with_reducible repeat (first | apply Kd.R_alloc | apply Kd.R_drewN | apply Kd.R_drew)); exact HO371.out))) (Kd.R_lt (by (with_reducible repeat (first | apply Kd.R_alloc | apply Kd.R_drewN | apply Kd.R_drew)); exact HO379.out))) (g := gb324) (o := .cells #[.int .u8 1, .int .i64 0, .int .i64 0, .string (⟨#[120]⟩ : ByteArray)] 23 (0, 0)) (by (with_reducible repeat (first | refine blk_drewN ?_ _ | refine blk_drew ?_ | refine blk_alloc ?_ _)); exact BK324.out)) (below_size (by repeat (first | (with_reducible first | exact HB.out | apply below_alloc | apply pw_below_drewN | apply below_drew1 | refine below_set ?_ GE324.out) | exact HB.out))))
                            have n9_ := Aside0.mk (blk_below (g := gb324) (o := .cells #[.int .u8 1, .int .i64 0, .int .i64 0, .string (⟨#[120]⟩ : ByteArray)] 23 (0, 0)) (by (with_reducible repeat (first | refine blk_drewN ?_ _ | refine blk_drew ?_ | refine blk_alloc ?_ _)); exact BK324.out) hb)
                            have n10_ := Aside0.mk (below_step (by repeat (first | (with_reducible first | exact HB.out | apply below_alloc | apply pw_below_drewN | apply below_drew1 | refine below_set ?_ GE324.out) | exact HB.out)) hb)
                            clear HO_39
                            clear HO323
                            clear HO335
                            clear HO339
                            clear HO347
                            clear HO359
                            clear HO371
                            clear HO379
                            clear BK324
                            clear HB
                            have HO_39 := n0_
                            have HO323 := n1_
                            have HO335 := n2_
                            have HO339 := n3_
                            have HO347 := n4_
                            have HO359 := n5_
                            have HO371 := n6_
                            have HO379 := n7_
                            have HO388 := n8_
                            have BK324 := n9_
                            have HB := n10_
                            clear n0_ n1_ n2_ n3_ n4_ n5_ n6_ n7_ n8_ n9_ n10_
                            clear hb ho158
                            obtain ⟨Ao159, co159, eo159⟩ := Kd.R_slice HO388.out
                            (first | subst eo159 | (injection eo159 with f1_ f2_ f3_; have f4_ := f1_.symm; have f5_ := f3_.symm; clear f1_ f2_ f3_; subst f4_; subst f5_))
                            refine hK.out _ _ ⟨(blk_cell BK324.out 0).trans rfl, (blk_cell BK324.out 1).trans rfl, (blk_cell BK324.out 2).trans rfl, (blk_cell BK324.out 3).trans rfl⟩ (fun hHeld => ?_)
                            clear hK K
                            refine norm_ (a' := ?_) ?_ ?_
                            rotate_left
                            · show Act.put _ (some 106) _ = _
                              simp only [Act.put, List.setIfInBounds_toArray, List.set_cons_zero, List.set_cons_succ, i64_w, i32_w]
                              rfl
                            refine one_ (i := 54) (N := some 107) #[true, true, true, true, true, true, true, true, true, true, true, true, true, true, true, true, true, true, true, true, true, true, true, true, true, true, true, true, true, true, true, true, true, true, true, true, true, true, true, true, true, true, true, true, true, true, true, true, true, true, true, true, true, true, true, false, false, false] rfl rfl (one_of HT_.out (by kernel_rfl)) (by decide) (fun K hK => ?_)
                            refine goes_ Tryd.func32 (by kernel_rfl) rfl #[.slice Ao159 y386.length co159] (by rfl) rfl rfl (by (try simp only [List.map_toArray, List.map_cons, List.map_nil]); first | done | rfl | (simp only [List.length_drop, List.length_take]; rfl)) ?_
                            with_reducible refine (row_Text.calls k2 _ _ y386 t389 _ ?side1 ?side2 A115.out ?sideG (q_ := true)).mono ?_
                            case sideG => exact GW.keep HG.out (by repeat (first | (with_reducible first | exact HB.out | apply below_alloc | apply pw_below_drewN | apply below_drew1 | refine below_set ?_ GE324.out) | exact HB.out))
                            (case side1 => repeat (first | exact (Kd.R_reads' HO388.out).2.2 | (with_reducible refine Kd.C_alloc ?_ _) | (with_reducible refine Kd.C_drewN ?_ _) | (with_reducible refine Kd.C_drew ?_)))
                            (case side2 => exact (Kd.R_reads' HO388.out).2.1)
                            rintro e w160 ⟨rfl, hb⟩
                            refine ⟨_, rfl, ?_⟩
                            have n0_ := Aside0.mk (Kd.R_below (by (with_reducible repeat (first | apply Kd.R_alloc | apply Kd.R_drewN | apply Kd.R_drew)); exact HO_39.out) hb)
                            have n1_ := Aside0.mk (Kd.R_below (by (with_reducible repeat (first | apply Kd.R_alloc | apply Kd.R_drewN | apply Kd.R_drew)); exact HO323.out) hb)
                            have n2_ := Aside0.mk (Kd.R_below (by (with_reducible repeat (first | apply Kd.R_alloc | apply Kd.R_drewN | apply Kd.R_drew)); exact HO335.out) hb)
                            have n3_ := Aside0.mk (Kd.R_below (by (with_reducible repeat (first | apply Kd.R_alloc | apply Kd.R_drewN | apply Kd.R_drew)); exact HO339.out) hb)
                            have n4_ := Aside0.mk (Kd.R_below (by (with_reducible repeat (first | apply Kd.R_alloc | apply Kd.R_drewN | apply Kd.R_drew)); exact HO347.out) hb)
                            have n5_ := Aside0.mk (Kd.R_below (by (with_reducible repeat (first | apply Kd.R_alloc | apply Kd.R_drewN | apply Kd.R_drew)); exact HO359.out) hb)
                            have n6_ := Aside0.mk (Kd.R_below (by (with_reducible repeat (first | apply Kd.R_alloc | apply Kd.R_drewN | apply Kd.R_drew)); exact HO371.out) hb)
                            have n7_ := Aside0.mk (Kd.R_below (by (with_reducible repeat (first | apply Kd.R_alloc | apply Kd.R_drewN | apply Kd.R_drew)); exact HO379.out) hb)
                            have n8_ := Aside0.mk (Kd.R_below (by (with_reducible repeat (first | apply Kd.R_alloc | apply Kd.R_drewN | apply Kd.R_drew)); exact HO388.out) hb)
                            have n9_ := Aside0.mk (blk_below (g := gb324) (o := .cells #[.int .u8 1, .int .i64 0, .int .i64 0, .string (⟨#[120]⟩ : ByteArray)] 23 (0, 0)) (by (with_reducible repeat (first | refine blk_drewN ?_ _ | refine blk_drew ?_ | refine blk_alloc ?_ _)); exact BK324.out) hb)
                            have n10_ := Aside0.mk (below_step (by repeat (first | (with_reducible first | exact HB.out | apply below_alloc | apply pw_below_drewN | apply below_drew1 | refine below_set ?_ GE324.out) | exact HB.out)) hb)
                            clear HO_39
                            clear HO323
                            clear HO335
                            clear HO339
                            clear HO347
                            clear HO359
                            clear HO371
                            clear HO379
                            clear HO388
                            clear BK324
                            clear HB
                            have HO_39 := n0_
                            have HO323 := n1_
                            have HO335 := n2_
                            have HO339 := n3_
                            have HO347 := n4_
                            have HO359 := n5_
                            have HO371 := n6_
                            have HO379 := n7_
                            have HO388 := n8_
                            have BK324 := n9_
                            have HB := n10_
                            clear n0_ n1_ n2_ n3_ n4_ n5_ n6_ n7_ n8_ n9_ n10_
                            (try clear hb)
                            (try clear hb2)
                            (try clear hk)
                            (try clear hi)
                            refine hK.out _ _ ⟨(blk_cell BK324.out 0).trans rfl, (blk_cell BK324.out 1).trans rfl, (blk_cell BK324.out 2).trans rfl, (blk_cell BK324.out 3).trans rfl⟩ (fun hHeld => ?_)
                            clear hK K
                            refine norm_ (a' := ?_) ?_ ?_
                            rotate_left
                            · show Act.put _ (some 107) _ = _
                              simp only [Act.put, List.setIfInBounds_toArray, List.set_cons_zero, List.set_cons_succ, i64_w, i32_w]
                              rfl
                            refine pure_ (i := 55) (N := some 108) (v := ?_) (a' := ?_) #[true, true, true, true, true, true, true, true, true, true, true, true, true, true, true, true, true, true, true, true, true, true, true, true, true, true, true, true, true, true, true, true, true, true, true, true, true, true, true, true, true, true, true, true, true, true, true, true, true, true, true, true, true, true, true, true, false, false] rfl rfl (any_of HT_.out (by kernel_rfl)) (fun _ _ _ h => h) (Or.inl ⟨by rfl, ?_⟩) ?_ ?_
                            rotate_left
                            · intro w'
                              go_simp
                              with_reducible rfl
                            rotate_left
                            · simp only [Act.put, List.setIfInBounds_toArray, List.set_cons_zero, List.set_cons_succ, i64_w, i32_w]
                              rfl
                            refine pure_ (i := 56) (N := some 109) (v := ?_) (a' := ?_) #[true, true, true, true, true, true, true, true, true, true, true, true, true, true, true, true, true, true, true, true, true, true, true, true, true, true, true, true, true, true, true, true, true, true, true, true, true, true, true, true, true, true, true, true, true, true, true, true, true, true, true, true, true, true, true, true, true, false] rfl rfl (any_of HT_.out (by kernel_rfl)) (fun _ _ _ h => h) (Or.inl ⟨by rfl, ?_⟩) ?_ ?_
                            rotate_left
                            · intro w'
                              go_simp
                              with_reducible rfl
                            rotate_left
                            · simp only [Act.put, List.setIfInBounds_toArray, List.set_cons_zero, List.set_cons_succ, i64_w, i32_w]
                              rfl
                            refine pure_ (i := 57) (N := some 0) (v := ?_) (a' := ?_) #[true, true, true, true, true, true, true, true, true, true, true, true, true, true, true, true, true, true, true, true, true, true, true, true, true, true, true, true, true, true, true, true, true, true, true, true, true, true, true, true, true, true, true, true, true, true, true, true, true, true, true, true, true, true, true, true, true, true] rfl rfl (any_of HT_.out (by kernel_rfl)) (fun _ _ _ h => h) (Or.inl ⟨by rfl, ?_⟩) ?_ ?_
                            rotate_left
                            · intro w'
                              go_simp
                              with_reducible rfl
                            rotate_left
                            · simp only [Act.put, List.setIfInBounds_toArray, List.set_cons_zero, List.set_cons_succ, i64_w, i32_w]
                              rfl
                            refine done_ (done_of HT_.out (by kernel_rfl)) ?_
                            try go_wp2
                            go_ret
                            exact ⟨by first | rfl | (simp [errW_none, errW_some] <;> rfl) | (simp [*, errW_none, errW_some] <;> rfl), by repeat (first | (with_reducible first | exact HB.out | apply below_alloc | apply pw_below_drewN | apply below_drew1 | refine below_set ?_ GE324.out) | exact HB.out)⟩
                          · rw [if_neg c113] at H
                            exact absurd (H.trans (congrArg some HR9.out)) (by simp)
                        · rw [if_neg c111] at H
                          exact absurd (H.trans (congrArg some HR9.out)) (by simp)
                      · rw [if_neg c108] at H
                        exact absurd (H.trans (congrArg some HR9.out)) (by simp)
                    · rw [if_neg c104] at H
                      exact absurd (H.trans (congrArg some HR9.out)) (by simp)
                  · rw [if_neg c100] at H
                    exact absurd (H.trans (congrArg some HR9.out)) (by simp)
                · rw [if_neg c97] at H
                  exact absurd (H.trans (congrArg some HR9.out)) (by simp)
              · rw [if_neg c95] at H
                exact absurd (H.trans (congrArg some HR9.out)) (by simp)
end Go.Proofs.YtddmllocjocipaaDoor.D
