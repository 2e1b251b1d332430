/- Which values may be, and fit a kind: what the functions come to. Conditions: as each theorem states them. -/
import Derived.Test.YtddmllocjocipaaDoorDx2
import Derived.Test.YtddmllocjocipaaDoorOpen
import Derived.Lib.Strings
namespace Go.Proofs.YtddmllocjocipaaDoor.D
open Go.RowKit Go.Proofs.YtddmllocjocipaaDoorW.PrintWords Go.Proofs.YtddmllocjocipaaDoorW.PrintLast Go.Proofs.YtddmllocjocipaaDoorW.PrintMore
set_option linter.unusedSimpArgs false
theorem ba_eq {a b : ByteArray} (h : a.data.toList = b.data.toList) : a = b := by
  cases a; cases b; simp_all
theorem tl_eq (a : ByteArray) : a.toList = a.data.toList := by exact Lib.toList_data a
def MayV (a b c : Int) (s : ByteArray) : Prop := (a = 0 ∧ b = 0 ∧ c = 0 ∧ s.toList = []) ∨ (a = 1 ∧ c = 0 ∧ s.toList = []) ∨ (a = 2 ∧ (b = 0 ∨ b = 1) ∧ c = 0 ∧ s.toList = []) ∨ (a = 3 ∧ b = 0 ∧ c = 0 ∧ (s.size : Int) ≤ 256) ∨ (a = 4 ∧ s.toList = [] ∧ b < c)
instance (a b c : Int) (s : ByteArray) : Decidable (MayV a b c s) := by unfold MayV; infer_instance
theorem and_one_i64 (b : Int) (_ : -9223372036854775808 ≤ b) (_ : b ≤ 9223372036854775807) : Go.bits .and .i64 b 1 = b % 2 := by
  show IntKind.i64.wrap ((BitVec.ofInt 64 b &&& BitVec.ofInt 64 1).toNat : Int) = _
  have h2 : (BitVec.ofInt 64 1).toNat = 1 := by decide
  rw [BitVec.toNat_and, h2, Nat.and_one_is_mod, BitVec.toNat_ofInt, IntKind.wrap_i64]
  omega
theorem may_spec (a b c : Int) (s : ByteArray) (h0 : -9223372036854775808 ≤ b) (h1 : b ≤ 9223372036854775807) : value_May.f a b c s = some (decide (MayV a b c s)) := by
  unfold value_May.f MayV
  rw [and_one_i64 b h0 h1]
  have hb : (b = b % 2) ↔ (b = 0 ∨ b = 1) := by omega
  by_cases e0 : a = 0
  · subst e0; by_cases q : b = 0 <;> by_cases q2 : c = 0 <;> by_cases q3 : s.toList = [] <;> simp [q, q2, q3]
  by_cases e1 : a = 1
  · subst e1; by_cases q2 : c = 0 <;> by_cases q3 : s.toList = [] <;> simp [q2, q3]
  by_cases e2 : a = 2
  · subst e2
    rw [if_neg (by omega), if_neg (by omega), if_pos rfl]
    by_cases q : b = 0 ∨ b = 1
    · have q4 : (b == b % 2) = true := beq_iff_eq.2 (hb.2 q)
      by_cases q2 : c = 0 <;> by_cases q3 : s.toList = [] <;> simp [q, q2, q3, q4]
    · have q4 : (b == b % 2) = false := beq_eq_false_iff_ne.2 (fun h => q (hb.1 h))
      simp [q, q4]
  by_cases e3 : a = 3
  · subst e3; by_cases q : b = 0 <;> by_cases q2 : c = 0 <;> simp [q, q2]
  by_cases e4 : a = 4
  · subst e4; by_cases q : s.toList = [] <;> simp [q]
  simp [e0, e1, e2, e3, e4]
end Go.Proofs.YtddmllocjocipaaDoor.D
