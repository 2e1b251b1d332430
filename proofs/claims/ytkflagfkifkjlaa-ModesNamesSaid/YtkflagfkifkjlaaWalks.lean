/- What each call of the program's package modes, of the law's own helpers and of the reference's plain functions comes to, over numbers. Conditions: each number fits its kind. -/
import Derived.Test.YtkflagfkifkjlaaRows
import Derived.Test.YtkflagfkifkjlaaPlain
import Derived.WalkKit
import Derived.WalkSpells
import Derived.WalkLawsBesides
import Derived.Lib.Hide
import Derived.Laws.BitsLemmas
namespace Go.Proofs.Ytkflagfkifkjlaa
open Go.RowKit
open Plain
theorem ret_bool {a b : Bool} (h : a = b) : Ending.returned (.bool a) = .returned (.bool b) := by rw [h]
theorem ret_int {k : IntKind} {a b : Int} (h : a = b) : Ending.returned (.int k a) = .returned (.int k b) := by rw [h]

/-! ### the words of the walk and the numbers -/
theorem wraps_u16 (n : Int) (h₀ : 0 ≤ n) (h₁ : n < 2 ^ 16) : IntKind.u16.wrap n = n := by
  have : IntKind.u16.wrap n = n % 65536 := by simp [IntKind.wrap, IntKind.bits, IntKind.signed]
  rw [this]; omega
theorem and16 (h : Int) (x : Nat) (h0 : 0 ≤ h) (h1 : h ≤ 65535) (hx : x < 65536) : bits .and .u16 h x = ((h.toNat &&& x : Nat) : Int) := by
  obtain ⟨n, rfl⟩ := Int.eq_ofNat_of_zero_le h0
  exact (bits_nat .u16 16 (by decide) wraps_u16 n x (by omega) hx).1
theorem or16 (h : Int) (x : Nat) (h0 : 0 ≤ h) (h1 : h ≤ 65535) (hx : x < 65536) : bits .or .u16 h x = ((h.toNat ||| x : Nat) : Int) := by
  obtain ⟨n, rfl⟩ := Int.eq_ofNat_of_zero_le h0
  exact (bits_nat .u16 16 (by decide) wraps_u16 n x (by omega) hx).2
theorem andNot16 (x y : Nat) (hx : x < 65536) (hy : y < 65536) : bits .andNot .u16 x y = ((x &&& (65535 ^^^ y) : Nat) : Int) := by
  have e : (BitVec.ofInt 16 (x : Int) &&& ~~~(BitVec.ofInt 16 (y : Int))).toNat = x &&& (65535 ^^^ y) := by
    rw [BitVec.ofInt_natCast, BitVec.ofInt_natCast, BitVec.toNat_and, BitVec.toNat_not, BitVec.toNat_ofNat, BitVec.toNat_ofNat, Nat.mod_eq_of_lt hx, Nat.mod_eq_of_lt hy]
    congr 1
    have h1 : (65535 ^^^ y) = 65535 - y := by
      have h2 := BitVec.toNat_not (x := BitVec.ofNat 16 y)
      rw [← BitVec.allOnes_xor, BitVec.toNat_xor, BitVec.toNat_ofNat, Nat.mod_eq_of_lt hy] at h2
      exact h2
    rw [h1]
  show IntKind.u16.wrap ((BitVec.ofInt 16 (x : Int) &&& ~~~(BitVec.ofInt 16 (y : Int))).toNat : Int) = _
  rw [e]
  have hl : x &&& (65535 ^^^ y) < 2 ^ 16 := by
    rw [Nat.and_comm]
    exact Nat.and_lt_two_pow _ hx
  exact wraps_u16 _ (Int.natCast_nonneg _) (by exact_mod_cast hl)
theorem bit_and (h : Int) (k : Nat) (h0 : 0 ≤ h) (h1 : h ≤ 65535) : (bits .and .u16 (h / 2 ^ k) 1 == 1) = h.toNat.testBit k := by
  obtain ⟨n, rfl⟩ := Int.eq_ofNat_of_zero_le h0
  have e : ((n : Int) / 2 ^ k) = ((n / 2 ^ k : Nat) : Int) := by simp
  have hl : n / 2 ^ k < 65536 := Nat.lt_of_le_of_lt (Nat.div_le_self _ _) (by omega)
  have := (bits_nat .u16 16 (by decide) wraps_u16 (n / 2 ^ k) 1 hl (by decide)).1
  rw [e, show ((1 : Nat) : Int) = 1 from rfl] at *
  rw [this]
  simp only [Int.toNat_natCast, Nat.testBit, Nat.shiftRight_eq_div_pow, Nat.and_comm 1]
  rw [Bool.eq_iff_iff]
  have h1 : (n / 2 ^ k &&& 1) = n / 2 ^ k % 2 := Nat.and_one_is_mod _
  rw [beq_iff_eq, bne_iff_ne, h1]
  omega

/-! ### modes.May -/
theorem may_1 {c m : Int} (h : (c == 1) = true) (hm : 1 ≤ m) : decide (m ≤ 8) = mayN c.toNat m.toNat := by
  obtain rfl : c = 1 := eq_of_beq h
  rw [Bool.eq_iff_iff]; simp [mayN]; omega
theorem may_2 {c m : Int} (h : (c == 1) = true) (hm : m < 1) : false = mayN c.toNat m.toNat := by
  obtain rfl : c = 1 := eq_of_beq h
  rw [Bool.eq_iff_iff]; simp [mayN]; omega
theorem may_3 {c m : Int} (h : (c == 2) = true) (hm : 1 ≤ m) : decide (m ≤ 2) = mayN c.toNat m.toNat := by
  obtain rfl : c = 2 := eq_of_beq h
  rw [Bool.eq_iff_iff]; simp [mayN]; omega
theorem may_4 {c m : Int} (h : (c == 2) = true) (hm : m < 1) : false = mayN c.toNat m.toNat := by
  obtain rfl : c = 2 := eq_of_beq h
  rw [Bool.eq_iff_iff]; simp [mayN]; omega
theorem may_5 {c m : Int} (h : (c == 1) = false) (h' : (c == 2) = false) : false = mayN c.toNat m.toNat := by
  have h1 : ¬ c.toNat = 1 := by simp at h; omega
  have h2 : ¬ c.toNat = 2 := by simp at h'; omega
  simp [mayN, h1, h2]
set_option maxHeartbeats 400000 in
theorem may_any (c m : Int) (w : World) :
    Calls Try.prog 13 #[.int .u8 c, .int .u8 m] w fun e w' => e = .returned (.bool (mayN c.toNat m.toNat)) ∧ w = w' := by
  go_enter Try.func13, Try.ntmps13
  go_wp2
  all_goals go_ret
  · exact ⟨ret_bool (may_1 (by assumption) (by assumption)), rfl⟩
  · exact ⟨ret_bool (may_2 (by assumption) (by assumption)), rfl⟩
  · exact ⟨ret_bool (may_3 (by assumption) (by assumption)), rfl⟩
  · exact ⟨ret_bool (may_4 (by assumption) (by assumption)), rfl⟩
  · exact ⟨ret_bool (may_5 (by assumption) (by assumption)), rfl⟩

/-! ### modes.against -/
def agV (c : Int) : Value := .agg #[.int .u16 (agN c.toNat 0), .int .u16 (agN c.toNat 1), .int .u16 (agN c.toNat 2), .int .u16 (agN c.toNat 3), .int .u16 (agN c.toNat 4), .int .u16 (agN c.toNat 5), .int .u16 (agN c.toNat 6), .int .u16 (agN c.toNat 7), .int .u16 (agN c.toNat 8)]
theorem agV_1 (c : Int) (h : (c == 1) = true) : Value.agg #[Value.int IntKind.u16 0, Value.int IntKind.u16 256, Value.int IntKind.u16 384, Value.int IntKind.u16 480,
            Value.int IntKind.u16 496, Value.int IntKind.u16 472, Value.int IntKind.u16 504, Value.int IntKind.u16 508, Value.int IntKind.u16 510] = agV c := by
  obtain rfl : c = 1 := eq_of_beq h
  rfl
theorem agV_2 (c : Int) (h : (c == 2) = true) : Value.agg #[Value.int IntKind.u16 0, Value.int IntKind.u16 4, Value.int IntKind.u16 6, Value.int IntKind.u16 0,
            Value.int IntKind.u16 0, Value.int IntKind.u16 0, Value.int IntKind.u16 0, Value.int IntKind.u16 0, Value.int IntKind.u16 0] = agV c := by
  obtain rfl : c = 2 := eq_of_beq h
  rfl
theorem agV_3 (c : Int) (h : (c == 1) = false) (h' : (c == 2) = false) : Value.agg #[Value.int IntKind.u16 0, Value.int IntKind.u16 0, Value.int IntKind.u16 0, Value.int IntKind.u16 0,
            Value.int IntKind.u16 0, Value.int IntKind.u16 0, Value.int IntKind.u16 0, Value.int IntKind.u16 0, Value.int IntKind.u16 0] = agV c := by
  have h1 : ¬ c.toNat = 1 := by simp at h; omega
  have h2 : ¬ c.toNat = 2 := by simp at h'; omega
  simp [agV, agN, agL, h1, h2]
set_option maxHeartbeats 400000 in
theorem against_any (c : Int) (w : World) :
    Calls Try.prog 19 #[.int .u8 c] w fun e w' => e = .returned (agV c) ∧ Below w.heap.size w w' := by
  go_enter Try.func19, Try.ntmps19
  go_wp2
  · have h : (c == 1) = true := by assumption
    exact bodyPost_ret (v := agV c) (by rw [← agV_1 c h]; simp [results, Try.results19, go_sem]) rfl ⟨rfl, (Below.refl _ _).alloc (Nat.le_refl _) _⟩
  · have h : (c == 2) = true := by assumption
    exact bodyPost_ret (v := agV c) (by rw [← agV_2 c h]; simp [results, Try.results19, go_sem]) rfl ⟨rfl, (Below.refl _ _).alloc (Nat.le_refl _) _⟩
  · have h : (c == 1) = false := by assumption
    have h' : (c == 2) = false := by assumption
    exact bodyPost_ret (v := agV c) (by rw [← agV_3 c h h']; simp [results, Try.results19, go_sem]) rfl ⟨rfl, (Below.refl _ _).alloc (Nat.le_refl _) _⟩
theorem idx (c a : Int) (h0 : 0 ≤ a) (h1 : a ≤ 8) : ∀ w, (Instr.index 35 (agV c) (.int .u8 a)).run Try.prog w = .ok (.int .u16 (agN c.toNat a.toNat)) w := by
  have : a = 0 ∨ a = 1 ∨ a = 2 ∨ a = 3 ∨ a = 4 ∨ a = 5 ∨ a = 6 ∨ a = 7 ∨ a = 8 := by omega
  rcases this with rfl | rfl | rfl | rfl | rfl | rfl | rfl | rfl | rfl <;> exact fun w => by kernel_rfl
/-! ### modes.Go -/
theorem go_bool {c h a : Int} (h0 : 0 ≤ h) (h1 : h ≤ 65535) (hm : mayN c.toNat a.toNat = true) : (bits BinOp.and IntKind.u16 h ↑(agN c.toNat a.toNat) == 0) = goN c.toNat h.toNat a.toNat := by
  rw [and16 h _ h0 h1 (by have := agN_lt c.toNat a.toNat; omega)]
  rw [Bool.eq_iff_iff]
  simp [goN, hm]
set_option maxHeartbeats 400000 in
theorem go_any (c h a : Int) (w : World) (h0 : 0 ≤ h) (h1 : h ≤ 65535) (a0 : 0 ≤ a) :
    Calls Try.prog 10 #[.int .u8 c, .int .u16 h, .int .u8 a] w fun e w' => e = .returned (.bool (goN c.toNat h.toNat a.toNat)) ∧ Below w.heap.size w w' := by
  cases hm : mayN c.toNat a.toNat with
  | true =>
    have hi := idx c a a0 (by have := mayN_le hm; omega)
    have hb := go_bool h0 h1 hm
    have HB := Lib.hid hb
    clear hb
    go_enter Try.func10, Try.ntmps10
    go_wp2_with (first | (go_at_call 13; refine (may_any _ _ _).mono ?_; rintro e w' ⟨rfl, rfl⟩) | (go_at_call 19; refine (against_any _ _).mono ?_; rintro e w' ⟨rfl, hb⟩))
    go_ret
    exact ⟨ret_bool HB.out, by assumption⟩
  | false =>
    have hg : false = goN c.toNat h.toNat a.toNat := by simp [goN, hm]
    have HG := Lib.hid hg
    clear hg
    go_enter Try.func10, Try.ntmps10
    go_wp2_with (first | (go_at_call 13; refine (may_any _ _ _).mono ?_; rintro e w' ⟨rfl, rfl⟩) | (go_at_call 19; refine (against_any _ _).mono ?_; rintro e w' ⟨rfl, hb⟩))
    go_ret
    exact ⟨ret_bool HG.out, Below.refl _ _⟩
theorem against_out (c : Int) (w : World) :
    Calls Try.prog 19 #[.int .u8 c] w fun e w' => e = .returned (.agg #[.int .u16 (agN c.toNat 0), .int .u16 (agN c.toNat 1), .int .u16 (agN c.toNat 2), .int .u16 (agN c.toNat 3), .int .u16 (agN c.toNat 4), .int .u16 (agN c.toNat 5), .int .u16 (agN c.toNat 6), .int .u16 (agN c.toNat 7), .int .u16 (agN c.toNat 8)]) ∧ Below w.heap.size w w' := against_any c w
theorem idx64 (c : Int) (k : Nat) (h1 : k < 9) : ∀ w, (Instr.index 35 (.agg #[.int .u16 (agN c.toNat 0), .int .u16 (agN c.toNat 1), .int .u16 (agN c.toNat 2), .int .u16 (agN c.toNat 3), .int .u16 (agN c.toNat 4), .int .u16 (agN c.toNat 5), .int .u16 (agN c.toNat 6), .int .u16 (agN c.toNat 7), .int .u16 (agN c.toNat 8)]) (.int .i64 k)).run Try.prog w = .ok (.int .u16 (agN c.toNat k)) w := by
  have : k = 0 ∨ k = 1 ∨ k = 2 ∨ k = 3 ∨ k = 4 ∨ k = 5 ∨ k = 6 ∨ k = 7 ∨ k = 8 := by omega
  rcases this with rfl | rfl | rfl | rfl | rfl | rfl | rfl | rfl | rfl <;> exact fun w => by kernel_rfl
theorem elt (c a : Int) (h0 : 0 ≤ a) (h1 : a ≤ 8) : ∀ h, ([.int .u16 (agN c.toNat 0), .int .u16 (agN c.toNat 1), .int .u16 (agN c.toNat 2), .int .u16 (agN c.toNat 3), .int .u16 (agN c.toNat 4), .int .u16 (agN c.toNat 5), .int .u16 (agN c.toNat 6), .int .u16 (agN c.toNat 7), .int .u16 (agN c.toNat 8)] : List Value)[a.toNat]'h = .int .u16 (agN c.toNat a.toNat) := by
  have : a = 0 ∨ a = 1 ∨ a = 2 ∨ a = 3 ∨ a = 4 ∨ a = 5 ∨ a = 6 ∨ a = 7 ∨ a = 8 := by omega
  rcases this with rfl | rfl | rfl | rfl | rfl | rfl | rfl | rfl | rfl <;> exact fun _ => rfl
theorem elt' (c a : Int) (h0 : 0 ≤ a) (h1 : a ≤ 8) : ([.int .u16 (agN c.toNat 0), .int .u16 (agN c.toNat 1), .int .u16 (agN c.toNat 2), .int .u16 (agN c.toNat 3), .int .u16 (agN c.toNat 4), .int .u16 (agN c.toNat 5), .int .u16 (agN c.toNat 6), .int .u16 (agN c.toNat 7), .int .u16 (agN c.toNat 8)] : List Value)[a.toNat]? = some (.int .u16 (agN c.toNat a.toNat)) := by
  have : a = 0 ∨ a = 1 ∨ a = 2 ∨ a = 3 ∨ a = 4 ∨ a = 5 ∨ a = 6 ∨ a = 7 ∨ a = 8 := by omega
  rcases this with rfl | rfl | rfl | rfl | rfl | rfl | rfl | rfl | rfl <;> rfl
theorem allN_lt (c h : Nat) : ∀ k, allN c h k < 512
  | 0 => by simp [allN]
  | k + 1 => by
    unfold allN
    split
    · exact Nat.or_lt_two_pow (n := 9) (allN_lt c h k) (agN_lt c k)
    · exact allN_lt c h k
theorem all_step {c h k : Nat} (hb : h.testBit k = true) : bits .or .u16 (allN c h k) (agN c k) = (allN c h (k + 1) : Nat) := by
  have h1 := allN_lt c h k
  have h2 := agN_lt c k
  rw [or16 _ _ (Int.natCast_nonneg _) (by omega) (by omega)]
  simp [allN, hb]
theorem all_stay {c h k : Nat} (hb : h.testBit k = false) : allN c h k = allN c h (k + 1) := by simp [allN, hb]
theorem cov_bool {c h a : Nat} (hm : mayN c a = true) : (bits .andNot .u16 (agN c a) (allN c h 9) == 0) = covN c h a := by
  have h1 := allN_lt c h 9
  have h2 := agN_lt c a
  rw [andNot16 _ _ (by omega) (by omega), Bool.eq_iff_iff]
  simp [covN, hm]
set_option maxHeartbeats 400000 in
theorem cov_any (c h a : Int) (w : World) (h0 : 0 ≤ h) (h1 : h ≤ 65535) (a0 : 0 ≤ a) (hm : mayN c.toNat a.toNat = true) :
    Calls Try.prog 12 #[.int .u8 c, .int .u16 h, .int .u8 a] w fun e w' => e = .returned (.bool (covN c.toNat h.toNat a.toNat)) ∧ Below w.heap.size w w' := by
    go_enter Try.func12, Try.ntmps12
    go_wp2_with (first | (go_at_call 13; refine (may_any _ _ _).mono ?_; rintro e w' ⟨rfl, rfl⟩) | (go_at_call 19; refine (against_out _ _).mono ?_; rintro e w' ⟨rfl, hb⟩))
    go_loop [8, 18] (fun al i => ∃ k : Nat, k ≤ 9 ∧ i = .int .i64 k ∧ al = .int .u16 (allN c.toNat h.toNat k)) (fun _ i => 9 - (intOf i).toNat)
    case atStart => exact ⟨0, by omega, rfl, rfl⟩
    case round =>
      obtain ⟨k, hk, rfl, rfl⟩ := hrel
      by_cases hlt : k < 9
      · have hix := idx64 c k hlt
        have hs : ∀ yk, Op.shift .shr .u16 h yk (k : Int) = pure (.int .u16 (h / 2 ^ k)) := fun yk => by
          rw [shift_shr_u16 yk h k (by omega) (by omega)]; rfl
        cases hb : h.toNat.testBit k with
        | true =>
          have ht : (bits .and .u16 (h / 2 ^ k) 1 == 1) = true := by rw [bit_and h k h0 h1, hb]
          have HB := Lib.hid hb
          clear hb
          go_wp2
          go_round
          case rel => exact ⟨k + 1, by omega, by go_num, by rw [all_step HB.out]⟩
          case measure => simp [intOf]; omega
        | false =>
          have ht : (bits .and .u16 (h / 2 ^ k) 1 == 1) = false := by rw [bit_and h k h0 h1, hb]
          have HB := Lib.hid hb
          clear hb
          go_wp2
          go_round
          case rel => exact ⟨k + 1, by omega, by go_num, by rw [← all_stay HB.out]⟩
          case measure => simp [intOf]; omega
      · obtain rfl : k = 9 := by omega
        have ha : a ≤ 8 := by have := mayN_le hm; omega
        have he := elt' c a a0 ha
        have hc := cov_bool (c := c.toNat) (h := h.toNat) hm
        have HC := Lib.hid hc
        clear hc
        go_wp2
        go_ret
        exact ⟨ret_bool HC.out, hb.trans ((Below.refl _ _).alloc hb.size _)⟩
set_option maxHeartbeats 400000 in
theorem cov_none (c h a : Int) (w : World) (hm : mayN c.toNat a.toNat = false) :
    Calls Try.prog 12 #[.int .u8 c, .int .u16 h, .int .u8 a] w fun e w' => e = .returned (.bool (covN c.toNat h.toNat a.toNat)) ∧ Below w.heap.size w w' := by
  have hc : covN c.toNat h.toNat a.toNat = false := by simp [covN, hm]
  rw [hc]
  clear hc
  go_enter Try.func12, Try.ntmps12
  go_wp2_with (go_at_call 13; refine (may_any _ _ _).mono ?_; rintro e w' ⟨rfl, rfl⟩)
  go_ret
  exact ⟨rfl, Below.refl _ _⟩
theorem cov_all (c h a : Int) (w : World) (h0 : 0 ≤ h) (h1 : h ≤ 65535) (a0 : 0 ≤ a) :
    Calls Try.prog 12 #[.int .u8 c, .int .u16 h, .int .u8 a] w fun e w' => e = .returned (.bool (covN c.toNat h.toNat a.toNat)) ∧ Below w.heap.size w w' := by
  cases hm : mayN c.toNat a.toNat with
  | true => exact cov_any c h a w h0 h1 a0 hm
  | false => exact cov_none c h a w hm
theorem with_int (h a : Int) (h0 : 0 ≤ h) (h1 : h ≤ 65535) : bits BinOp.or IntKind.u16 h (IntKind.u16.wrap (2 ^ min a.toNat 16)) = (withN h.toNat a.toNat : Nat) := by
  by_cases ha : a.toNat < 16
  · rw [Nat.min_eq_left (by omega)]
    have hp : 2 ^ a.toNat < 65536 := Nat.pow_lt_pow_right (by decide) ha
    have e : IntKind.u16.wrap (2 ^ a.toNat) = ((2 ^ a.toNat : Nat) : Int) := by
      rw [wraps_u16 _ (Int.pow_nonneg (by decide)) (by exact_mod_cast hp)]; simp
    rw [e, or16 _ _ h0 h1 hp]
    simp [withN, ha]
  · rw [Nat.min_eq_right (by omega)]
    have e : IntKind.u16.wrap (2 ^ 16) = ((0 : Nat) : Int) := by decide
    rw [e, or16 _ _ h0 h1 (by decide)]
    simp [withN, ha]
theorem withN_lt {h : Nat} (a : Nat) (h1 : h < 65536) : withN h a < 65536 := by
  unfold withN
  split
  · exact Nat.or_lt_two_pow (n := 16) h1 (Nat.pow_lt_pow_right (by decide) (by assumption))
  · exact h1
set_option maxHeartbeats 400000 in
theorem with_any (h a : Int) (w : World) (h0 : 0 ≤ h) (h1 : h ≤ 65535) (_a0 : 0 ≤ a) :
    Calls Try.prog 14 #[.int .u16 h, .int .u8 a] w fun e w' => e = .returned (.int .u16 (withN h.toNat a.toNat : Nat)) ∧ w = w' := by
  go_enter Try.func14, Try.ntmps14
  go_wp2
  go_ret
  exact ⟨ret_int (with_int h a h0 h1), rfl⟩
def setN (l : List Nat) : Nat := l.foldl withN 0
theorem setN_take {l : List Nat} {k : Nat} (h : k < l.length) : setN (l.take (k + 1)) = withN (setN (l.take k)) (l.getD k 0) := by
  rw [List.take_succ_eq_append_getElem h]
  unfold setN
  rw [List.foldl_append]
  simp [List.getD, h]
theorem setN_lt (l : List Nat) : setN l < 65536 := by
  have : ∀ (l : List Nat) (s : Nat), s < 65536 → l.foldl withN s < 65536 := by
    intro l
    induction l with
    | nil => intro s hs; exact hs
    | cons x r ih => intro s hs; exact ih _ (withN_lt x hs)
  exact this l 0 (by decide)
theorem bAlloc {w W : World} (h : Below w.heap.size w W) (o : Obj) : Below w.heap.size w (W.alloc o) := h.alloc h.size o
theorem bStep {w W w2 : World} (h : Below w.heap.size w W) (k : Below W.heap.size W w2) : Below w.heap.size w w2 := h.trans (k.mono h.size)
set_option maxHeartbeats 400000 in
theorem set_any (b cap : Nat) (l : List Nat) (w : World) (hl : l.length ≤ 16) (hc : ∀ i, i < l.length → w.cell? ⟨b, i, none⟩ = some (.int .u8 (l.getD i 0 : Nat))) :
    Calls Try.prog 11 #[.slice (some ⟨b, 0, none⟩) l.length cap] w fun e w' => e = .returned (.int .u16 (setN l : Nat)) ∧ w = w' := by
  have HC := Lib.hid hc
  clear hc
  go_enter Try.func11, Try.ntmps11
  go_wp2_with fail
  go_loop [3, 4] (fun s i => ∃ k : Nat, k ≤ l.length ∧ i = .int .i64 k ∧ s = .int .u16 (setN (l.take k) : Nat)) (fun _ i => l.length - (intOf i).toNat)
  case atStart => exact ⟨0, Nat.zero_le _, rfl, rfl⟩
  case round =>
    obtain ⟨k, hk, rfl, rfl⟩ := hrel
    by_cases hlt : k < l.length
    · have hcell := HC.out k hlt
      go_wp2_with (go_at_call 14; refine (with_any _ _ _ (Int.natCast_nonneg _) (by have := setN_lt (l.take k); omega) (Int.natCast_nonneg _)).mono ?_; rintro e w' ⟨rfl, rfl⟩)
      go_round
      case rel => exact ⟨k + 1, by omega, by go_num, by rw [setN_take hlt]; simp [List.getD, hlt]⟩
      case measure => simp [intOf]; omega
    · obtain rfl : k = l.length := by omega
      go_wp2
      go_ret
      exact ⟨rfl, rfl⟩
theorem set_one (x : Nat) (W : World) :
    Calls Try.prog 11 #[.slice (some ⟨W.heap.size, 0, none⟩) 1 1] (W.alloc (.cells #[.int .u8 (x : Int)] 5)) fun e w' => e = .returned (.int .u16 (withN 0 x : Nat)) ∧ W.alloc (.cells #[.int .u8 (x : Int)] 5) = w' :=
  set_any W.heap.size 1 [x] _ (by simp) (fun i hi => by
    obtain rfl : i = 0 := by simp at hi; exact hi
    simp [go_sem])
theorem set_two (x y : Nat) (W : World) :
    Calls Try.prog 11 #[.slice (some ⟨W.heap.size, 0, none⟩) 2 2] (W.alloc (.cells #[.int .u8 (x : Int), .int .u8 (y : Int)] 5)) fun e w' => e = .returned (.int .u16 (withN (withN 0 x) y : Nat)) ∧ W.alloc (.cells #[.int .u8 (x : Int), .int .u8 (y : Int)] 5) = w' :=
  set_any W.heap.size 2 [x, y] _ (by simp) (fun i hi => by
    have : i = 0 ∨ i = 1 := by simp at hi; omega
    rcases this with rfl | rfl <;> simp [go_sem])
/-- With what comes out as a number of its own. -/
theorem set1 (x : Nat) (s : Int) (hs : ((withN 0 x : Nat) : Int) = s) (W : World) :
    Calls Try.prog 11 #[.slice (some ⟨W.heap.size, 0, none⟩) 1 1] (W.alloc (.cells #[.int .u8 (x : Int)] 5)) fun e w' => e = .returned (.int .u16 s) ∧ W.alloc (.cells #[.int .u8 (x : Int)] 5) = w' := hs ▸ set_one x W
theorem set2 (x y : Nat) (s : Int) (hs : ((withN (withN 0 x) y : Nat) : Int) = s) (W : World) :
    Calls Try.prog 11 #[.slice (some ⟨W.heap.size, 0, none⟩) 2 2] (W.alloc (.cells #[.int .u8 (x : Int), .int .u8 (y : Int)] 5)) fun e w' => e = .returned (.int .u16 s) ∧ W.alloc (.cells #[.int .u8 (x : Int), .int .u8 (y : Int)] 5) = w' := hs ▸ set_two x y W
theorem go_of (c h a : Int) (r : Bool) (hr : goN c.toNat h.toNat a.toNat = r) (h0 : 0 ≤ h) (h1 : h ≤ 65535) (a0 : 0 ≤ a) (w : World) :
    Calls Try.prog 10 #[.int .u8 c, .int .u16 h, .int .u8 a] w fun e w' => e = .returned (.bool r) ∧ Below w.heap.size w w' := hr ▸ go_any c h a w h0 h1 a0
theorem cov_of (c h a : Int) (r : Bool) (hr : covN c.toNat h.toNat a.toNat = r) (h0 : 0 ≤ h) (h1 : h ≤ 65535) (a0 : 0 ≤ a) (w : World) :
    Calls Try.prog 12 #[.int .u8 c, .int .u16 h, .int .u8 a] w fun e w' => e = .returned (.bool r) ∧ Below w.heap.size w w' := hr ▸ cov_all c h a w h0 h1 a0
set_option maxHeartbeats 400000 in
theorem works_any (w : World) :
    Calls Try.prog 9 #[] w fun e w' => e = .returned (.bool true) ∧ Below w.heap.size w w' := by
  go_enter Try.func9, Try.ntmps9
  go_wp2_with fail
  refine (set2 1 3 10 (by decide) w).mono ?_; rintro e w1 ⟨rfl, rfl⟩
  go_wp2_with fail
  refine (go_of 1 10 3 true (by decide) (by decide) (by decide) (by decide) _).mono ?_; rintro e w1 ⟨rfl, q1⟩
  replace q1 := bStep (bAlloc (Below.refl _ w) _) q1
  go_wp2_with fail
  refine (set1 3 8 (by decide) _).mono ?_; rintro e w' ⟨rfl, rfl⟩
  go_wp2_with fail
  refine (go_of 1 8 5 false (by decide) (by decide) (by decide) (by decide) _).mono ?_; rintro e w2 ⟨rfl, q2⟩
  replace q2 := bStep (bAlloc q1 _) q2; clear q1
  go_wp2_with fail
  refine (set1 1 2 (by decide) _).mono ?_; rintro e w' ⟨rfl, rfl⟩
  go_wp2_with fail
  refine (go_of 2 2 1 true (by decide) (by decide) (by decide) (by decide) _).mono ?_; rintro e w3 ⟨rfl, q3⟩
  replace q3 := bStep (bAlloc q2 _) q3; clear q2
  go_wp2_with fail
  refine (set1 6 64 (by decide) _).mono ?_; rintro e w' ⟨rfl, rfl⟩
  go_wp2_with fail
  refine (cov_of 1 64 3 true (by decide) (by decide) (by decide) (by decide) _).mono ?_; rintro e w4 ⟨rfl, q4⟩
  replace q4 := bStep (bAlloc q3 _) q4; clear q3
  go_wp2_with fail
  refine (set1 3 8 (by decide) _).mono ?_; rintro e w' ⟨rfl, rfl⟩
  go_wp2_with fail
  refine (cov_of 1 8 4 false (by decide) (by decide) (by decide) (by decide) _).mono ?_; rintro e w5 ⟨rfl, q5⟩
  replace q5 := bStep (bAlloc q4 _) q5; clear q4
  go_wp2_with fail
  refine (set2 4 5 48 (by decide) _).mono ?_; rintro e w' ⟨rfl, rfl⟩
  go_wp2_with fail
  refine (cov_of 1 48 6 true (by decide) (by decide) (by decide) (by decide) _).mono ?_; rintro e w6 ⟨rfl, q6⟩
  replace q6 := bStep (bAlloc q5 _) q6; clear q5
  go_wp2_with fail
  refine (set1 1 2 (by decide) _).mono ?_; rintro e w' ⟨rfl, rfl⟩
  go_wp2_with fail
  refine (with_any 2 3 _ (by decide) (by decide) (by decide)).mono ?_; rintro e w' ⟨rfl, rfl⟩
  go_wp2_with fail
  go_ret
  exact ⟨ret_bool (by decide), bAlloc q6 _⟩

/-! ### the reference's functions -/
theorem may_iff (c m : Int) : mayN c.toNat m.toNat = true ↔ ((c = 1 ∧ 1 ≤ m ∧ m ≤ 8) ∨ (c = 2 ∧ 1 ≤ m ∧ m ≤ 2)) := by
  simp [mayN]; omega
set_option maxHeartbeats 400000 in
theorem rmay_any (c m : Int) (w : World) :
    Calls Try.prog 15 #[.int .u8 c, .int .u8 m] w fun e w' => e = .returned (.bool (mayN c.toNat m.toNat)) ∧ w = w' := by
  have HM : ∀ b : Bool, (b = true ↔ ((c = 1 ∧ 1 ≤ m ∧ m ≤ 8) ∨ (c = 2 ∧ 1 ≤ m ∧ m ≤ 2))) → b = mayN c.toNat m.toNat := fun b hb => by
    rw [Bool.eq_iff_iff, may_iff]; exact hb
  generalize mayN c.toNat m.toNat = r at *
  have HM' := Lib.hid HM
  clear HM
  go_enter Try.func15, Try.ntmps15
  go_wp2
  all_goals go_ret
  all_goals exact ⟨ret_bool (HM'.out _ (by simp; omega)), rfl⟩
theorem has_iff (h m : Int) (h0 : 0 ≤ h) (m0 : 0 ≤ m) : hasN h.toNat m.toNat = true ↔ m < 16 ∧ h / 2 ^ m.toNat % 2 = 1 := by
  obtain ⟨n, rfl⟩ := Int.eq_ofNat_of_zero_le h0
  obtain ⟨k, rfl⟩ := Int.eq_ofNat_of_zero_le m0
  have e : ((n : Int) / 2 ^ k) = ((n / 2 ^ k : Nat) : Int) := by simp
  simp only [Int.toNat_natCast, hasN, Nat.testBit, Nat.shiftRight_eq_div_pow, Nat.and_comm 1, Nat.and_one_is_mod, e]
  simp
  omega
set_option maxHeartbeats 400000 in
theorem has_any (h m : Int) (w : World) (h0 : 0 ≤ h) (_h1 : h ≤ 65535) (m0 : 0 ≤ m) :
    Calls Try.prog 20 #[.int .u16 h, .int .u8 m] w fun e w' => e = .returned (.bool (hasN h.toNat m.toNat)) ∧ w = w' := by
  have HM := Lib.hid (has_iff h m h0 m0)
  generalize hasN h.toNat m.toNat = r at *
  go_enter Try.func20, Try.ntmps20
  go_wp2
  all_goals go_ret
  · have hd : 0 ≤ h / 2 ^ m.toNat := Int.ediv_nonneg h0 (Int.pow_nonneg (by decide))
    exact ⟨ret_bool (by rw [Bool.eq_iff_iff, HM.out, Int.tmod_eq_emod_of_nonneg hd]; simp; omega), rfl⟩
  · exact ⟨ret_bool (by rw [Bool.eq_iff_iff, HM.out]; simp; omega), rfl⟩
theorem tog_iff (c a b : Int) (a0 : 0 ≤ a) (b0 : 0 ≤ b) : togN c.toNat a.toNat b.toNat = true ↔
    ((c = 2 ∧ a = 1 ∧ b = 1) ∨ (c ≠ 2 ∧ b < a ∧ ((b = 1 ∧ a ≠ 8) ∨ (b = 2 ∧ a < 7) ∨ (b = 3 ∧ a < 5) ∨ (b = 5 ∧ a = 5))) ∨ (c ≠ 2 ∧ a ≤ b ∧ ((a = 1 ∧ b ≠ 8) ∨ (a = 2 ∧ b < 7) ∨ (a = 3 ∧ b < 5) ∨ (a = 5 ∧ b = 5)))) := by
  obtain ⟨a, rfl⟩ := Int.eq_ofNat_of_zero_le a0
  obtain ⟨b, rfl⟩ := Int.eq_ofNat_of_zero_le b0
  simp only [Int.toNat_natCast, togN]
  by_cases hc : c = 2
  · subst hc; simp; omega
  · have hc' : ¬ c.toNat = 2 := by omega
    rw [if_neg hc']
    rcases Nat.lt_or_ge b a with hba | hba
    · have m1 : min a b = b := by omega
      have m2 : max a b = a := by omega
      simp only [m1, m2]
      by_cases e1 : b = 1
      · simp [e1]; omega
      by_cases e2 : b = 2
      · simp [e2]; omega
      by_cases e3 : b = 3
      · simp [e3]; omega
      by_cases e4 : b = 4
      · simp [e4]; omega
      by_cases e5 : b = 5
      · simp [e5]; omega
      · simp [e1, e2, e3, e4, e5]; omega
    · have m1 : min a b = a := by omega
      have m2 : max a b = b := by omega
      simp only [m1, m2]
      by_cases e1 : a = 1
      · simp [e1]; omega
      by_cases e2 : a = 2
      · simp [e2]; omega
      by_cases e3 : a = 3
      · simp [e3]; omega
      by_cases e4 : a = 4
      · simp [e4]; omega
      by_cases e5 : a = 5
      · simp [e5]; omega
      · simp [e1, e2, e3, e4, e5]; omega
set_option maxHeartbeats 400000 in
theorem tog_any (c a b : Int) (w : World) (a0 : 0 ≤ a) (b0 : 0 ≤ b) :
    Calls Try.prog 21 #[.int .u8 c, .int .u8 a, .int .u8 b] w fun e w' => e = .returned (.bool (togN c.toNat a.toNat b.toNat)) ∧ w = w' := by
  have HM := Lib.hid (tog_iff c a b a0 b0)
  generalize togN c.toNat a.toNat b.toNat = r at *
  go_enter Try.func21, Try.ntmps21
  go_wp2
  all_goals go_ret
  all_goals (refine ⟨ret_bool (Bool.eq_iff_iff.2 (Iff.trans ?_ HM.out.symm)), rfl⟩; clear HM; simp at *; omega)
end Go.Proofs.Ytkflagfkifkjlaa
