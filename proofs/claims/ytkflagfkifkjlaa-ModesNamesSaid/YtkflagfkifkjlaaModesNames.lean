/- The law ModesNames holds of the program: the examples, the classes, each two modes, and what is no mode, are as the document has them. Conditions: none. -/
import Derived.Test.YtkflagfkifkjlaaRows
import Derived.Test.YtkflagfkifkjlaaRef
import Derived.WalkKit
import Derived.Deep.RegionHeld3
import Derived.ProofKit
import Derived.OpenShut
namespace Go.Proofs.Ytkflagfkifkjlaa.modesNames
open Go.ChangeShapes Go.WideShapes Go.ChangeAt Go.RowKit Plain
set_option linter.unusedVariables false      -- a walk need not use every 'w<i>' (that an integer argument fits its kind)

theorem own : ownKnob Try.prog.godebug = none := by kernel_rfl

theorem set_oneI (x : Int) (h0 : 0 ≤ x) (W : World) :
    Calls Try.prog 11 #[.slice (some ⟨W.heap.size, 0, none⟩) 1 1] (W.alloc (.cells #[.int .u8 x] 5)) fun e w' => e = .returned (.int .u16 (withN 0 x.toNat : Nat)) ∧ W.alloc (.cells #[.int .u8 x] 5) = w' := by
  obtain ⟨n, rfl⟩ := Int.eq_ofNat_of_zero_le h0
  exact set_one n W
theorem set_oneD (x : Int) (h0 : 0 ≤ x) (W : World) :
    Calls Try.prog 11 #[.slice (some ⟨W.heap.size, 0, none⟩) 1 1] (W.alloc (.cells #[.int .u8 x] 5)).drew fun e w' => e = .returned (.int .u16 (withN 0 x.toNat : Nat)) ∧ (W.alloc (.cells #[.int .u8 x] 5)).drew = w' := by
  obtain ⟨n, rfl⟩ := Int.eq_ofNat_of_zero_le h0
  exact set_any W.heap.size 1 [n] _ (by simp) (fun i hi => by
    obtain rfl : i = 0 := by simp at hi; exact hi
    simp [go_sem])
theorem with0_lt (a : Nat) : withN 0 a < 65536 := withN_lt a (by decide)
theorem may_of (c m : Int) (r : Bool) (hr : mayN c.toNat m.toNat = r) (w : World) :
    Calls Try.prog 13 #[.int .u8 c, .int .u8 m] w fun e w' => e = .returned (.bool r) ∧ w = w' := hr ▸ may_any c m w
theorem below_new2 {W W' : World} {x y : Int} {t : TypeId} (hb : Below (W.alloc (.cells #[.int .u8 x, .int .u8 y] t)).heap.size (W.alloc (.cells #[.int .u8 x, .int .u8 y] t)) W') :
    W'.cell? ⟨W.heap.size, 0, none⟩ = some (.int .u8 x) ∧ W'.cell? ⟨W.heap.size, 1, none⟩ = some (.int .u8 y) :=
  ⟨(hb.cell (p := ⟨W.heap.size, 0, none⟩) (by simp)).trans (by simp [go_sem]), (hb.cell (p := ⟨W.heap.size, 1, none⟩) (by simp)).trans (by simp [go_sem])⟩
theorem with_of (h a s : Int) (hs : ((withN h.toNat a.toNat : Nat) : Int) = s) (h0 : 0 ≤ h) (h1 : h ≤ 65535) (a0 : 0 ≤ a) (w : World) :
    Calls Try.prog 14 #[.int .u16 h, .int .u8 a] w fun e w' => e = .returned (.int .u16 s) ∧ w = w' := hs ▸ with_any h a w h0 h1 a0
def rowB (i : Nat) : ByteArray := match i with
  | 0 => ⟨#[121, 121, 121, 121, 121, 121, 121, 110]⟩
  | 1 => ⟨#[121, 121, 121, 121, 121, 121, 110, 110]⟩
  | 2 => ⟨#[121, 121, 121, 121, 110, 110, 110, 110]⟩
  | 3 => ⟨#[121, 121, 121, 110, 110, 110, 110, 110]⟩
  | 4 => ⟨#[121, 121, 110, 110, 121, 110, 110, 110]⟩
  | 5 => ⟨#[121, 121, 110, 110, 110, 110, 110, 110]⟩
  | 6 => ⟨#[121, 110, 110, 110, 110, 110, 110, 110]⟩
  | _ => ⟨#[110, 110, 110, 110, 110, 110, 110, 110]⟩
def rowY (i j : Nat) : Nat := ((rowB i).data.getD j 0).toNat
def RowsAt (W : World) (B : Nat) : Prop := ∀ i, i < 8 → W.cell? ⟨B, i, none⟩ = some (.string (rowB i))
theorem rowsAt_below {W W' : World} {B : Nat} (h : RowsAt W B) (hb : Below W.heap.size W W') : RowsAt W' B := fun i hi =>
  (hb.cell (p := ⟨B, i, none⟩) (World.block_lt_of_cell? W ⟨B, i, none⟩ (h i hi))).trans (h i hi)
theorem rows_tab : allBelow 8 (fun i => allBelow 8 fun j => goN 1 (withN 0 (i + 1)) (j + 1) == (rowY i j == 121)) = true := by decide +kernel
theorem idxS (i j : Nat) (hi : i < 8) (hj : j < 8) : ∀ w, (Instr.index 9 (.string (rowB i)) (.int .i64 (j : Int))).run Try.prog w = .ok (.int .u8 (rowY i j : Nat)) w := by
  have hi' : i = 0 ∨ i = 1 ∨ i = 2 ∨ i = 3 ∨ i = 4 ∨ i = 5 ∨ i = 6 ∨ i = 7 := by omega
  have hj' : j = 0 ∨ j = 1 ∨ j = 2 ∨ j = 3 ∨ j = 4 ∨ j = 5 ∨ j = 6 ∨ j = 7 := by omega
  rcases hi' with rfl | rfl | rfl | rfl | rfl | rfl | rfl | rfl <;> rcases hj' with rfl | rfl | rfl | rfl | rfl | rfl | rfl | rfl <;> exact fun w => by kernel_rfl
theorem rows_eq (i j : Nat) (hi : i < 8) (hj : j < 8) : goN 1 (withN 0 (i + 1)) (j + 1) = (((rowY i j : Nat) : Int) == 121) := by
  have := allBelow_at (allBelow_at rows_tab hi) hj
  rw [eq_of_beq this, Bool.eq_iff_iff]
  simp
  omega
def pairs (k : Nat) : Int × Int := match k with
  | 0 => (0, 1)
  | 1 => (3, 1)
  | 2 => (1, 0)
  | 3 => (1, 9)
  | 4 => (2, 3)
  | 5 => (2, 0)
  | _ => (255, 255)
def PairsAt (W : World) (B : Nat) : Prop := ∀ k, k < 7 → W.cell? ⟨B, 2 * k, none⟩ = some (.int .u8 (pairs k).1) ∧ W.cell? ⟨B, 2 * k + 1, none⟩ = some (.int .u8 (pairs k).2)
theorem pairsAt_below {W W' : World} {B : Nat} (h : PairsAt W B) (hb : Below W.heap.size W W') : PairsAt W' B := fun k hk =>
  ⟨(hb.cell (p := ⟨B, 2 * k, none⟩) (World.block_lt_of_cell? W ⟨B, 2 * k, none⟩ (h k hk).1)).trans (h k hk).1, (hb.cell (p := ⟨B, 2 * k + 1, none⟩) (World.block_lt_of_cell? W ⟨B, 2 * k + 1, none⟩ (h k hk).2)).trans (h k hk).2⟩
theorem pairs_new (W : World) : PairsAt (W.alloc (.cells #[.int .u8 0, .int .u8 1, .int .u8 3, .int .u8 1, .int .u8 1, .int .u8 0, .int .u8 1, .int .u8 9, .int .u8 2, .int .u8 3, .int .u8 2, .int .u8 0, .int .u8 255, .int .u8 255] 27)) W.heap.size := fun k hk => by
  have hk' : k = 0 ∨ k = 1 ∨ k = 2 ∨ k = 3 ∨ k = 4 ∨ k = 5 ∨ k = 6 := by omega
  rcases hk' with rfl | rfl | rfl | rfl | rfl | rfl | rfl <;> simp [go_sem, pairs]
def SK (w : World) (B : Nat) (W : World) : Prop := RowsAt W B ∧ Below w.heap.size w W
theorem rowsAt_alloc {W : World} {B : Nat} (h : RowsAt W B) (o : Obj) : RowsAt (W.alloc o) B := rowsAt_below h ((Below.refl _ _).alloc (Nat.le_refl _) o)
theorem sk_alloc {w W : World} {B i : Nat} (hi : i < 8) (h : SK w B W) (o : Obj) : (W.alloc o).cell? ⟨B, i, none⟩ = some (.string (rowB i)) ∧ SK w B (W.alloc o) :=
  ⟨rowsAt_alloc h.1 o i hi, rowsAt_alloc h.1 o, bAlloc h.2 o⟩
theorem sk_allocd {w W : World} {B i : Nat} (hi : i < 8) (h : SK w B W.drew) (o : Obj) : (W.alloc o).drew.cell? ⟨B, i, none⟩ = some (.string (rowB i)) ∧ SK w B (W.alloc o).drew :=
  have k : RowsAt (W.alloc o) B := rowsAt_alloc (W := W) (fun i hi => h.1 i hi) o
  have b : Below w.heap.size w W := ⟨h.2.os, h.2.tape, h.2.output, h.2.size, h.2.block⟩
  ⟨k i hi, k, (bAlloc b o).drew⟩
theorem wrap_small (n : Int) (h0 : 0 ≤ n) (h1 : n < 100) : IntKind.i64.wrap n = n ∧ IntKind.u8.wrap n = n := by
  rw [IntKind.wrap_i64, IntKind.wrap_u8]; omega
theorem sk_step {w W W' : World} {B i : Nat} (hi : i < 8) (h : SK w B W) (hb : Below W.heap.size W W') : W'.cell? ⟨B, i, none⟩ = some (.string (rowB i)) ∧ SK w B W' :=
  ⟨rowsAt_below h.1 hb i hi, rowsAt_below h.1 hb, bStep h.2 hb⟩
theorem sk_same {w W : World} {B i : Nat} (hi : i < 8) (h : SK w B W) : W.cell? ⟨B, i, none⟩ = some (.string (rowB i)) ∧ SK w B W := ⟨h.1 i hi, h⟩
set_option maxRecDepth 100000 in
set_option maxHeartbeats 1000000 in
theorem walk  (w : World) :
    Calls Try.prog 3 #[] w fun e w' => e = .returned (.bool true) ∧ Below w.heap.size w w' := by
  go_enter Try.func3, Try.ntmps3
  go_wp2_with (first | (go_at_call 9; refine (works_any _).mono ?_; rintro e w1 ⟨rfl, q1⟩))
  have HR : ∀ W : World, RowsAt (W.alloc (Obj.cells #[.string (rowB 0), .string (rowB 1), .string (rowB 2), .string (rowB 3), .string (rowB 4), .string (rowB 5), .string (rowB 6), .string (rowB 7)] 9)) W.heap.size := fun W i hi => by
    have hi' : i = 0 ∨ i = 1 ∨ i = 2 ∨ i = 3 ∨ i = 4 ∨ i = 5 ∨ i = 6 ∨ i = 7 := by omega
    rcases hi' with rfl | rfl | rfl | rfl | rfl | rfl | rfl | rfl <;> simp [go_sem]
  have r1 := HR w1
  clear HR
  replace q1 := bAlloc q1 (Obj.cells #[.string (rowB 0), .string (rowB 1), .string (rowB 2), .string (rowB 3), .string (rowB 4), .string (rowB 5), .string (rowB 6), .string (rowB 7)] 9)
  change RowsAt (w1.alloc (Obj.cells #[.string ⟨#[121, 121, 121, 121, 121, 121, 121, 110]⟩, .string ⟨#[121, 121, 121, 121, 121, 121, 110, 110]⟩, .string ⟨#[121, 121, 121, 121, 110, 110, 110, 110]⟩, .string ⟨#[121, 121, 121, 110, 110, 110, 110, 110]⟩, .string ⟨#[121, 121, 110, 110, 121, 110, 110, 110]⟩, .string ⟨#[121, 121, 110, 110, 110, 110, 110, 110]⟩, .string ⟨#[121, 110, 110, 110, 110, 110, 110, 110]⟩, .string ⟨#[110, 110, 110, 110, 110, 110, 110, 110]⟩] 9)) _ at r1
  change Below _ w (w1.alloc (Obj.cells #[.string ⟨#[121, 121, 121, 121, 121, 121, 121, 110]⟩, .string ⟨#[121, 121, 121, 121, 121, 121, 110, 110]⟩, .string ⟨#[121, 121, 121, 121, 110, 110, 110, 110]⟩, .string ⟨#[121, 121, 121, 110, 110, 110, 110, 110]⟩, .string ⟨#[121, 121, 110, 110, 121, 110, 110, 110]⟩, .string ⟨#[121, 121, 110, 110, 110, 110, 110, 110]⟩, .string ⟨#[121, 110, 110, 110, 110, 110, 110, 110]⟩, .string ⟨#[110, 110, 110, 110, 110, 110, 110, 110]⟩] 9)) at q1
  go_loopw [2] (fun a wr => ∃ i : Nat, i ≤ 8 ∧ a = .int .i64 ((i : Int) + 1) ∧ Below w.heap.size w wr ∧ RowsAt wr w1.heap.size) (fun a _ => 20 - (intOf a).toNat)
  case atStart => exact ⟨0, by omega, rfl, q1, r1⟩
  case round =>
    obtain ⟨i, hi, rfl, q2, r2⟩ := hrel
    clear q1 r1
    by_cases hlt : i < 8
    · have hd : decide ((i : Int) + 1 ≤ 8) = true := by simp; omega
      go_wp2_with fail
      go_loopw [3] (fun b wr => ∃ j : Nat, j ≤ 8 ∧ b = .int .i64 ((j : Int) + 1) ∧ Below w.heap.size w wr ∧ RowsAt wr w1.heap.size) (fun b _ => 20 - (intOf b).toNat)
      case atStart => exact ⟨0, by omega, rfl, q2, r2⟩
      case round =>
        obtain ⟨j, hj, rfl, q3, r3⟩ := hrel
        clear q2 r2
        by_cases hlj : j < 8
        · have hix := idxS i j hlt hlj
          have hw1 := (wrap_small i (by omega) (by omega)).1
          have hw2 := (wrap_small j (by omega) (by omega)).1
          have hw3 : IntKind.u8.wrap ((i : Int) + 1) = (i : Int) + 1 := (wrap_small _ (by omega) (by omega)).2
          have hw4 : IntKind.u8.wrap ((j : Int) + 1) = (j : Int) + 1 := (wrap_small _ (by omega) (by omega)).2
          have hw5 : IntKind.i64.wrap ((i : Int) + 1 - 1) = i := by rw [show (i : Int) + 1 - 1 = i by omega]; exact hw1
          have hw6 : IntKind.i64.wrap ((j : Int) + 1 - 1) = j := by rw [show (j : Int) + 1 - 1 = j by omega]; exact hw2
          have hb1 : (i : Int) < 8 := by omega
          have hb2 : (j : Int) < 8 := by omega
          have hb3 : (0 : Int) ≤ i := by omega
          have hb4 : (0 : Int) ≤ j := by omega
          have hk0 := sk_same hlt (⟨r3, q3.drew⟩ : SK w w1.heap.size wr.drew)
          go_wp2_with fail
          go_region_held3 (fun W => W.cell? ⟨w1.heap.size, i, none⟩ = some (.string (rowB i)) ∧ SK w w1.heap.size W)
            (first | exact hk0 | exact sk_alloc hlt (by assumption) _ | exact sk_allocd hlt hk0.2 _ | exact sk_step hlt (sk_allocd hlt hk0.2 _).2 (by assumption) | exact sk_same hlt (by assumption) | exact sk_step hlt (by assumption) (by assumption)) (first | (go_at_call 11; refine (set_oneD _ (by omega) _).mono ?_; rintro e w' ⟨rfl, rfl⟩) | (go_at_call 10; refine (go_any _ _ _ _ (Int.natCast_nonneg _) (by have := with0_lt (i + 1); omega) (by omega)).mono ?_; rintro e wg ⟨rfl, qg⟩))
          all_goals
            have ht : (!(goN 1 (withN 0 (i + 1)) (j + 1) == (((rowY i j : Nat) : Int) == 121))) = false := by rw [rows_eq i j hlt hlj]; simp
            have hk : SK w w1.heap.size wg := And.right (by assumption)
            go_wp2_with fail
            · rename_i hbad; rw [rows_eq i j hlt hlj] at hbad; simp at hbad
            go_roundw
            case rel => exact ⟨j + 1, by omega, by simp, hk.2, hk.1⟩
            case measure => simp [intOf]; omega
        · obtain rfl : j = 8 := by omega
          go_wp2_with fail
          go_roundw
          case rel => exact ⟨i + 1, by omega, by simp, q3, r3⟩
          case measure => simp [intOf]; omega
    · obtain rfl : i = 8 := by omega
      go_wp2_with fail
      clear r2
      refine (set1 1 2 (by decide) _).mono ?_; rintro e w' ⟨rfl, rfl⟩
      go_wp2_with fail
      refine (go_of 2 2 1 true (by decide) (by decide) (by decide) (by decide) _).mono ?_; rintro e w3 ⟨rfl, q3⟩
      replace q3 := bStep (bAlloc q2 _) q3; clear q2
      go_wp2_with fail
      refine (set1 1 2 (by decide) _).mono ?_; rintro e w' ⟨rfl, rfl⟩
      go_wp2_with fail
      refine (go_of 2 2 2 false (by decide) (by decide) (by decide) (by decide) _).mono ?_; rintro e w4 ⟨rfl, q4⟩
      replace q4 := bStep (bAlloc q3 _) q4; clear q3
      go_wp2_with fail
      refine (set1 2 4 (by decide) _).mono ?_; rintro e w' ⟨rfl, rfl⟩
      go_wp2_with fail
      refine (go_of 2 4 1 false (by decide) (by decide) (by decide) (by decide) _).mono ?_; rintro e w5 ⟨rfl, q5⟩
      replace q5 := bStep (bAlloc q4 _) q5; clear q4
      go_wp2_with fail
      refine (set1 2 4 (by decide) _).mono ?_; rintro e w' ⟨rfl, rfl⟩
      go_wp2_with fail
      refine (go_of 2 4 2 false (by decide) (by decide) (by decide) (by decide) _).mono ?_; rintro e w6 ⟨rfl, q6⟩
      replace q6 := bStep (bAlloc q5 _) q6; clear q5
      go_wp2_with fail
      refine (set2 3 8 264 (by decide) _).mono ?_; rintro e w' ⟨rfl, rfl⟩
      go_wp2_with fail
      refine (go_of 2 264 2 true (by decide) (by decide) (by decide) (by decide) _).mono ?_; rintro e w7 ⟨rfl, q7⟩
      replace q7 := bStep (bAlloc q6 _) q7; clear q6
      go_wp2_with fail
      refine (set2 3 8 264 (by decide) _).mono ?_; rintro e w' ⟨rfl, rfl⟩
      go_wp2_with fail
      refine (cov_of 2 264 1 false (by decide) (by decide) (by decide) (by decide) _).mono ?_; rintro e w8 ⟨rfl, q8⟩
      replace q8 := bStep (bAlloc q7 _) q8; clear q7
      go_wp2_with fail
      refine (go_of 1 33281 8 true (by decide) (by decide) (by decide) (by decide) _).mono ?_; rintro e w9 ⟨rfl, q9⟩
      replace q9 := bStep q8 q9; clear q8
      go_wp2_with fail
      go_loopw [81] (fun i W => ∃ k : Nat, k ≤ 7 ∧ i = .int .i64 k ∧ Below w.heap.size w W ∧ PairsAt W w9.heap.size) (fun i _ => 7 - (intOf i).toNat)
      case atStart => exact ⟨0, by omega, rfl, bAlloc q9 _, pairs_new w9⟩
      case round =>
        obtain ⟨k, hk, rfl, q10, p10⟩ := hrel
        by_cases hlk : k < 7
        · have hc := p10 k hlk
          have hB := World.block_lt_of_cell? wr ⟨w9.heap.size, 2 * k, none⟩ hc.1
          have P10 := Lib.hid p10
          clear p10
          have hk' : k = 0 ∨ k = 1 ∨ k = 2 ∨ k = 3 ∨ k = 4 ∨ k = 5 ∨ k = 6 := by omega
          rcases hk' with rfl | rfl | rfl | rfl | rfl | rfl | rfl
          · obtain ⟨hc1, hc2⟩ := hc
            simp only [Nat.mul_zero, Nat.zero_add, pairs] at hc1 hc2 hB
            go_wp2_with fail
            refine (may_of 0 1 false (by decide) _).mono ?_; rintro e w' ⟨rfl, rfl⟩
            go_wp2_with fail
            refine (go_of 0 0 1 false (by decide) (by decide) (by decide) (by decide) _).mono ?_; rintro e wA ⟨rfl, qA⟩
            obtain ⟨hx1, hx2⟩ := below_new2 qA
            have sA := qA.size
            go_wp2_with fail
            refine (cov_of 0 65535 1 false (by decide) (by decide) (by decide) (by decide) _).mono ?_; rintro e wB ⟨rfl, qB⟩
            go_wp2_with fail
            go_roundw
            case rel => exact ⟨1, by omega, rfl, bStep (bStep (bAlloc q10 _) qA) qB, pairsAt_below (pairsAt_below (pairsAt_below P10.out ((Below.refl _ _).alloc (Nat.le_refl _) _)) qA) qB⟩
            case measure => decide
          · obtain ⟨hc1, hc2⟩ := hc
            simp only [pairs, Nat.reduceMul, Nat.reduceAdd] at hc1 hc2 hB
            go_wp2_with fail
            refine (may_of 3 1 false (by decide) _).mono ?_; rintro e w' ⟨rfl, rfl⟩
            go_wp2_with fail
            refine (go_of 3 0 1 false (by decide) (by decide) (by decide) (by decide) _).mono ?_; rintro e wA ⟨rfl, qA⟩
            obtain ⟨hx1, hx2⟩ := below_new2 qA
            have sA := qA.size
            go_wp2_with fail
            refine (cov_of 3 65535 1 false (by decide) (by decide) (by decide) (by decide) _).mono ?_; rintro e wB ⟨rfl, qB⟩
            go_wp2_with fail
            go_roundw
            case rel => exact ⟨2, by omega, rfl, bStep (bStep (bAlloc q10 _) qA) qB, pairsAt_below (pairsAt_below (pairsAt_below P10.out ((Below.refl _ _).alloc (Nat.le_refl _) _)) qA) qB⟩
            case measure => decide
          · obtain ⟨hc1, hc2⟩ := hc
            simp only [pairs, Nat.reduceMul, Nat.reduceAdd] at hc1 hc2 hB
            go_wp2_with fail
            refine (may_of 1 0 false (by decide) _).mono ?_; rintro e w' ⟨rfl, rfl⟩
            go_wp2_with fail
            refine (go_of 1 0 0 false (by decide) (by decide) (by decide) (by decide) _).mono ?_; rintro e wA ⟨rfl, qA⟩
            obtain ⟨hx1, hx2⟩ := below_new2 qA
            have sA := qA.size
            go_wp2_with fail
            refine (cov_of 1 65535 0 false (by decide) (by decide) (by decide) (by decide) _).mono ?_; rintro e wB ⟨rfl, qB⟩
            go_wp2_with fail
            go_roundw
            case rel => exact ⟨3, by omega, rfl, bStep (bStep (bAlloc q10 _) qA) qB, pairsAt_below (pairsAt_below (pairsAt_below P10.out ((Below.refl _ _).alloc (Nat.le_refl _) _)) qA) qB⟩
            case measure => decide
          · obtain ⟨hc1, hc2⟩ := hc
            simp only [pairs, Nat.reduceMul, Nat.reduceAdd] at hc1 hc2 hB
            go_wp2_with fail
            refine (may_of 1 9 false (by decide) _).mono ?_; rintro e w' ⟨rfl, rfl⟩
            go_wp2_with fail
            refine (go_of 1 0 9 false (by decide) (by decide) (by decide) (by decide) _).mono ?_; rintro e wA ⟨rfl, qA⟩
            obtain ⟨hx1, hx2⟩ := below_new2 qA
            have sA := qA.size
            go_wp2_with fail
            refine (cov_of 1 65535 9 false (by decide) (by decide) (by decide) (by decide) _).mono ?_; rintro e wB ⟨rfl, qB⟩
            go_wp2_with fail
            go_roundw
            case rel => exact ⟨4, by omega, rfl, bStep (bStep (bAlloc q10 _) qA) qB, pairsAt_below (pairsAt_below (pairsAt_below P10.out ((Below.refl _ _).alloc (Nat.le_refl _) _)) qA) qB⟩
            case measure => decide
          · obtain ⟨hc1, hc2⟩ := hc
            simp only [pairs, Nat.reduceMul, Nat.reduceAdd] at hc1 hc2 hB
            go_wp2_with fail
            refine (may_of 2 3 false (by decide) _).mono ?_; rintro e w' ⟨rfl, rfl⟩
            go_wp2_with fail
            refine (go_of 2 0 3 false (by decide) (by decide) (by decide) (by decide) _).mono ?_; rintro e wA ⟨rfl, qA⟩
            obtain ⟨hx1, hx2⟩ := below_new2 qA
            have sA := qA.size
            go_wp2_with fail
            refine (cov_of 2 65535 3 false (by decide) (by decide) (by decide) (by decide) _).mono ?_; rintro e wB ⟨rfl, qB⟩
            go_wp2_with fail
            go_roundw
            case rel => exact ⟨5, by omega, rfl, bStep (bStep (bAlloc q10 _) qA) qB, pairsAt_below (pairsAt_below (pairsAt_below P10.out ((Below.refl _ _).alloc (Nat.le_refl _) _)) qA) qB⟩
            case measure => decide
          · obtain ⟨hc1, hc2⟩ := hc
            simp only [pairs, Nat.reduceMul, Nat.reduceAdd] at hc1 hc2 hB
            go_wp2_with fail
            refine (may_of 2 0 false (by decide) _).mono ?_; rintro e w' ⟨rfl, rfl⟩
            go_wp2_with fail
            refine (go_of 2 0 0 false (by decide) (by decide) (by decide) (by decide) _).mono ?_; rintro e wA ⟨rfl, qA⟩
            obtain ⟨hx1, hx2⟩ := below_new2 qA
            have sA := qA.size
            go_wp2_with fail
            refine (cov_of 2 65535 0 false (by decide) (by decide) (by decide) (by decide) _).mono ?_; rintro e wB ⟨rfl, qB⟩
            go_wp2_with fail
            go_roundw
            case rel => exact ⟨6, by omega, rfl, bStep (bStep (bAlloc q10 _) qA) qB, pairsAt_below (pairsAt_below (pairsAt_below P10.out ((Below.refl _ _).alloc (Nat.le_refl _) _)) qA) qB⟩
            case measure => decide
          · obtain ⟨hc1, hc2⟩ := hc
            simp only [pairs, Nat.reduceMul, Nat.reduceAdd] at hc1 hc2 hB
            go_wp2_with fail
            refine (may_of 255 255 false (by decide) _).mono ?_; rintro e w' ⟨rfl, rfl⟩
            go_wp2_with fail
            refine (go_of 255 0 255 false (by decide) (by decide) (by decide) (by decide) _).mono ?_; rintro e wA ⟨rfl, qA⟩
            obtain ⟨hx1, hx2⟩ := below_new2 qA
            have sA := qA.size
            go_wp2_with fail
            refine (cov_of 255 65535 255 false (by decide) (by decide) (by decide) (by decide) _).mono ?_; rintro e wB ⟨rfl, qB⟩
            go_wp2_with fail
            go_roundw
            case rel => exact ⟨7, by omega, rfl, bStep (bStep (bAlloc q10 _) qA) qB, pairsAt_below (pairsAt_below (pairsAt_below P10.out ((Below.refl _ _).alloc (Nat.le_refl _) _)) qA) qB⟩
            case measure => decide
        · obtain rfl : k = 7 := by omega
          go_wp2_with fail
          refine (with_of 5 16 5 (by decide) (by decide) (by decide) (by decide) _).mono ?_; rintro e w' ⟨rfl, rfl⟩
          go_wp2_with fail
          refine (with_of 5 255 5 (by decide) (by decide) (by decide) (by decide) _).mono ?_; rintro e w' ⟨rfl, rfl⟩
          go_wp2_with fail
          refine (with_of 0 15 32768 (by decide) (by decide) (by decide) (by decide) _).mono ?_; rintro e w' ⟨rfl, rfl⟩
          go_wp2_with fail
          refine (with_of 0 0 1 (by decide) (by decide) (by decide) (by decide) _).mono ?_; rintro e w' ⟨rfl, rfl⟩
          go_wp2_with fail
          go_ret
          exact ⟨ret_bool (by decide), q10⟩

/-! ### THE ROW's STEP: WRITTEN OUT: LEAVE IT -/
set_option maxRecDepth 100000 in
theorem lifted (os : Os) (started : os.Started) (H : Type) (enc : TypeId × Value → H) :
    ReturnsInHanded {} Try.checked os 3 .any (Rows.modesNamesSpec.pre6 enc Try.prog Try.f3 Rows.modesNamesRow.domain false) (Rows.modesNamesSpec.post enc Try.prog Try.f3 false true false false) := by
  refine returnsInHanded_of_change (C := Try.checked) own started (by kernel_rfl) Try.func3
    (ChangeSpec.witness6 (enc := enc) (C := Try.checked) false ⟨#[], #[], []⟩ 8 (by kernel_rfl) (by kernel_rfl) (by kernel_rfl) (by kernel_rfl)) ?_
  intro W base args ds gs before hval0 hW hcnd _
  have hval : ∀ (j : Nat) t v, Try.f3.params[j]? = some t → args[j]? = some v → Value.okWide Try.prog W .any base t v := hval0
  have hW' := hW
  obtain ⟨p, q, hA0, hV, rfl, hfz, hnd⟩ := hW
  have hA : DataW.TrodAll enc Try.prog W 0 (fun _ => true) true Try.f3.params.toList args.toList ds p := hA0
  rw [Try.params3] at hA hval
  obtain ⟨rfl, rfl, rfl⟩ := trodAll_none hA
  obtain ⟨rfl, rfl⟩ := trodVars_none hV
  clear hA0 hval0
  simp only [List.append_nil] at hW'
  refine (walk  W).mono fun e W' ⟨he, hg⟩ => ?_
  subst he
  exact ⟨_, rfl, post_of_below (pa := []) (pv := []) hW' (fun _ _ _ => (trodAll_cons_mk (shut_bool Try.underlying4 _) trodAll_mk0)) (fun sp _ => rfl) (fun _ _ => rfl) rfl
    hg (ok_one (by kernel_rfl) rfl (okWide_bool_mk Try.underlying4 _))⟩

theorem over : Rows.modesNamesRow.holds Try.pinned (OpenSpec.ofChange Rows.modesNamesSpec) :=
  OpenClaim.holds_of_wide 3 Try.f3 rfl rfl rfl rfl rfl rfl rfl ⟨rfl, rfl, rfl, rfl, rfl⟩ rfl rfl rfl rfl rfl (by kernel_rfl) Try.func3 (by kernel_rfl)
    (of_decide_eq_true (by kernel_rfl)) (by unfold Func.isWrapper; first | (rw [if_pos (by decide +kernel)]; kernel_rfl) | (rw [if_neg (by decide +kernel)]; exact ⟨rfl, rfl⟩))
    (fun os started H enc _ => lifted os started H enc)

end Go.Proofs.Ytkflagfkifkjlaa.modesNames
namespace Go.Proofs.Ytkflagfkifkjlaa
/-- THE STATEMENT. -/
theorem modesNames_holds : Rows.ModesNamesSaid := modesNames.over
#print axioms modesNames_holds
end Go.Proofs.Ytkflagfkifkjlaa
