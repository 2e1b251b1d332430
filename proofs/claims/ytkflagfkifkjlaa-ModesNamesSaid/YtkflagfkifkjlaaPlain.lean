/- The plain law of the modes: what the program's package modes and the reference's answer are one, over numbers alone. Conditions: none. -/
namespace Go.Proofs.Ytkflagfkifkjlaa.Plain

def mayN (c m : Nat) : Bool := (c == 1 && (1 ≤ m && m ≤ 8)) || (c == 2 && (1 ≤ m && m ≤ 2))
def agL (c : Nat) : List Nat :=
  if c = 1 then [0, 256, 384, 480, 496, 472, 504, 508, 510] else if c = 2 then [0, 4, 6, 0, 0, 0, 0, 0, 0] else [0, 0, 0, 0, 0, 0, 0, 0, 0]
def agN (c m : Nat) : Nat := (agL c).getD m 0
def goN (c h a : Nat) : Bool := mayN c a && (h &&& agN c a == 0)
/-- What the first k modes of what is held go against. -/
def allN (c h : Nat) : Nat → Nat
  | 0 => 0
  | k + 1 => if h.testBit k then allN c h k ||| agN c k else allN c h k
def covN (c h a : Nat) : Bool := mayN c a && (agN c a &&& (65535 ^^^ allN c h 9) == 0)
def withN (h a : Nat) : Nat := if a < 16 then h ||| 2 ^ a else h

/-! ### the reference's -/
def togN (c a b : Nat) : Bool :=
  if c = 2 then a == 1 && b == 1 else
  let x := min a b
  let y := max a b
  if x = 1 then y != 8 else if x = 2 then decide (y < 7) else if x = 3 then decide (y < 5) else if x = 4 then false else if x = 5 then y == 5 else false
def hasN (h m : Nat) : Bool := decide (m < 16) && h.testBit m
/-- From mode m on. -/
def refGoFrom (c h a : Nat) : Nat → Nat → Bool
  | 0, _ => true
  | d + 1, m => if mayN c m && (hasN h m && !togN c m a) then false else refGoFrom c h a d (m + 1)
def refGoN (c h a : Nat) : Bool := mayN c a && refGoFrom c h a 8 1
def refCovFrom (c h a : Nat) : Nat → Nat → Bool
  | 0, _ => true
  | d + 1, m => if mayN c m && (!togN c m a && refGoN c h m) then false else refCovFrom c h a d (m + 1)
def refCovN (c h a : Nat) : Bool := mayN c a && refCovFrom c h a 8 1
def refWithN (h a : Nat) : Nat := if 15 < a || hasN h a then h else h + 2 ^ a

/-! ### what lies above bit 8 counts for nothing -/
theorem agN_lt (c m : Nat) : agN c m < 512 := by
  unfold agN agL
  split
  · match m with
    | 0 | 1 | 2 | 3 | 4 | 5 | 6 | 7 | 8 => decide
    | m + 9 => simp
  · split
    · match m with
      | 0 | 1 | 2 | 3 | 4 | 5 | 6 | 7 | 8 => decide
      | m + 9 => simp
    · match m with
      | 0 | 1 | 2 | 3 | 4 | 5 | 6 | 7 | 8 => decide
      | m + 9 => simp
theorem and_low (h x : Nat) (hx : x < 512) : h &&& x = (h % 512) &&& x := by
  have e : (h &&& x) % 2 ^ 9 = (h % 2 ^ 9) &&& (x % 2 ^ 9) := Nat.and_mod_two_pow
  have l : h &&& x < 2 ^ 9 := Nat.and_lt_two_pow h hx
  rw [Nat.mod_eq_of_lt l, Nat.mod_eq_of_lt (show x < 2 ^ 9 from hx)] at e
  exact e
theorem bit_low (h m : Nat) (hm : m < 9) : (h % 512).testBit m = h.testBit m := by
  have := Nat.testBit_mod_two_pow h 9 m
  rw [show (2 : Nat) ^ 9 = 512 from rfl] at this
  rw [this]; simp [hm]
theorem goN_low (c h a : Nat) : goN c h a = goN c (h % 512) a := by
  unfold goN; rw [and_low h _ (agN_lt c a)]
theorem allN_low (c h : Nat) : ∀ k, k ≤ 9 → allN c h k = allN c (h % 512) k
  | 0, _ => rfl
  | k + 1, hk => by
    unfold allN
    rw [bit_low h k (by omega), allN_low c h k (by omega)]
theorem covN_low (c h a : Nat) : covN c h a = covN c (h % 512) a := by
  unfold covN; rw [allN_low c h 9 (Nat.le_refl _)]
theorem mayN_le {c m : Nat} (h : mayN c m = true) : (c = 1 ∧ 1 ≤ m ∧ m ≤ 8) ∨ (c = 2 ∧ 1 ≤ m ∧ m ≤ 2) := by
  unfold mayN at h; simp at h; omega
theorem hasN_low {c m : Nat} (h : Nat) (hm : mayN c m = true) : hasN (h % 512) m = hasN h m := by
  unfold hasN; rw [bit_low h m (by have := mayN_le hm; omega)]
theorem refGoFrom_low (c h a : Nat) : ∀ d m, refGoFrom c h a d m = refGoFrom c (h % 512) a d m
  | 0, _ => rfl
  | d + 1, m => by
    unfold refGoFrom
    rw [refGoFrom_low c h a d (m + 1)]
    cases hm : mayN c m with
    | false => simp
    | true => rw [hasN_low h hm]
theorem refGoN_low (c h a : Nat) : refGoN c h a = refGoN c (h % 512) a := by
  unfold refGoN; rw [refGoFrom_low]
theorem refCovFrom_low (c h a : Nat) : ∀ d m, refCovFrom c h a d m = refCovFrom c (h % 512) a d m
  | 0, _ => rfl
  | d + 1, m => by
    unfold refCovFrom
    rw [refCovFrom_low c h a d (m + 1), refGoN_low c h m]
theorem refCovN_low (c h a : Nat) : refCovN c h a = refCovN c (h % 512) a := by
  unfold refCovN; rw [refCovFrom_low]

/-! ### the finite part, by reckoning -/
def allBelow (n : Nat) (p : Nat → Bool) : Bool := match n with
  | 0 => true
  | n + 1 => p n && allBelow n p
theorem allBelow_at {n : Nat} {p : Nat → Bool} (h : allBelow n p = true) {i : Nat} (hi : i < n) : p i = true := by
  induction n with
  | zero => omega
  | succ n ih =>
    unfold allBelow at h
    rw [Bool.and_eq_true] at h
    by_cases e : i = n
    · rw [e]; exact h.1
    · exact ih h.2 (by omega)
theorem go_tab : allBelow 2 (fun c => allBelow 512 fun h => allBelow 9 fun a => goN (c + 1) h a == refGoN (c + 1) h a) = true := by decide +kernel
theorem cov_tab : allBelow 2 (fun c => allBelow 512 fun h => allBelow 9 fun a => covN (c + 1) h a == refCovN (c + 1) h a) = true := by decide +kernel
theorem go_eq (c h a : Nat) : goN c h a = refGoN c h a := by
  by_cases hm : mayN c a = true
  · rw [goN_low, refGoN_low]
    have hl := mayN_le hm
    have := allBelow_at (allBelow_at (allBelow_at go_tab (i := c - 1) (by omega)) (i := h % 512) (by omega)) (i := a) (by omega)
    rw [show c - 1 + 1 = c by omega] at this
    exact eq_of_beq this
  · have hf : mayN c a = false := by simpa using hm
    simp [goN, refGoN, hf]
theorem cov_eq (c h a : Nat) : covN c h a = refCovN c h a := by
  by_cases hm : mayN c a = true
  · rw [covN_low, refCovN_low]
    have hl := mayN_le hm
    have := allBelow_at (allBelow_at (allBelow_at cov_tab (i := c - 1) (by omega)) (i := h % 512) (by omega)) (i := a) (by omega)
    rw [show c - 1 + 1 = c by omega] at this
    exact eq_of_beq this
  · have hf : mayN c a = false := by simpa using hm
    simp [covN, refCovN, hf]
theorem add_bit (h a : Nat) (hb : h.testBit a = false) : h ||| 2 ^ a = h + 2 ^ a := by
  have hd := Nat.div_add_mod h (2 ^ (a + 1))
  have hm : h % 2 ^ (a + 1) < 2 ^ a := by
    rcases Nat.lt_or_ge (h % 2 ^ (a + 1)) (2 ^ a) with hl | hg
    · exact hl
    · exfalso
      have hlt : h % 2 ^ (a + 1) < 2 ^ (a + 1) := Nat.mod_lt _ (Nat.two_pow_pos _)
      have : (h % 2 ^ (a + 1)).testBit a = true := Nat.testBit_of_two_pow_le_and_two_pow_add_one_gt hg hlt
      rw [Nat.testBit_mod_two_pow] at this
      simp [hb] at this
  have e1 : h % 2 ^ (a + 1) + 2 ^ a = 2 ^ a ||| h % 2 ^ (a + 1) := by
    have := Nat.two_pow_add_eq_or_of_lt hm 1
    rw [Nat.mul_one] at this
    rw [← this, Nat.add_comm]
  have hlt : 2 ^ a ||| h % 2 ^ (a + 1) < 2 ^ (a + 1) := by
    have hp : 2 ^ (a + 1) = 2 ^ a + 2 ^ a := by rw [Nat.pow_succ]; omega
    rw [← e1]; omega
  have e2 := Nat.two_pow_add_eq_or_of_lt hlt (h / 2 ^ (a + 1))
  have e3 := Nat.two_pow_add_eq_or_of_lt (Nat.mod_lt h (Nat.two_pow_pos (a + 1))) (h / 2 ^ (a + 1))
  rw [hd] at e3
  calc h ||| 2 ^ a = (2 ^ (a + 1) * (h / 2 ^ (a + 1)) ||| h % 2 ^ (a + 1)) ||| 2 ^ a := by rw [← e3]
    _ = 2 ^ (a + 1) * (h / 2 ^ (a + 1)) ||| (2 ^ a ||| h % 2 ^ (a + 1)) := by rw [Nat.or_assoc, Nat.or_comm (2 ^ a)]
    _ = 2 ^ (a + 1) * (h / 2 ^ (a + 1)) + (2 ^ a ||| h % 2 ^ (a + 1)) := e2.symm
    _ = h + 2 ^ a := by rw [← e1]; omega
theorem or_bit (h a : Nat) (hb : h.testBit a = true) : h ||| 2 ^ a = h := by
  apply Nat.eq_of_testBit_eq
  intro i
  rw [Nat.testBit_or, Nat.testBit_two_pow]
  by_cases e : a = i
  · subst e; simp [hb]
  · simp [e]
theorem with_eq (h a : Nat) : withN h a = refWithN h a := by
  unfold withN refWithN hasN
  by_cases ha : a < 16
  · rw [if_pos ha]
    cases hb : h.testBit a with
    | true => rw [if_pos (by simp [ha])]; exact or_bit h a hb
    | false => rw [if_neg (by simp; omega)]; exact add_bit h a hb
  · rw [if_neg ha, if_pos (by simp; omega)]
end Go.Proofs.Ytkflagfkifkjlaa.Plain
