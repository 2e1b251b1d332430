/- A slice that is only handed on, told by a number: each slice value is some number's, and the nil slice is nought's. Conditions: none. -/
import Derived.Test.YteklimdjlihloaaWWords
namespace Go.Proofs.Yteklimdjlihloaa.G
open Go.RowKit Go.Proofs.YteklimdjlihloaaW.PrintWords
/-- The pairs of numbers, one after another. -/
def unp : Nat → Nat × Nat
  | 0 => (0, 0)
  | n + 1 => match (unp n).1 with | 0 => ((unp n).2 + 1, 0) | a + 1 => (a, (unp n).2 + 1)
theorem unp_onto : ∀ (s b : Nat), b ≤ s → ∃ n, unp n = (s - b, b)
  | 0, b, h => ⟨0, by have : b = 0 := by omega
                      subst this; rfl⟩
  | s + 1, 0, _ => by
    obtain ⟨n, hn⟩ := unp_onto s s (Nat.le_refl _)
    exact ⟨n + 1, by simp [unp, hn]⟩
  | s + 1, b + 1, h => by
    obtain ⟨n, hn⟩ := unp_onto (s + 1) b (by omega)
    refine ⟨n + 1, ?_⟩
    have e : s + 1 - b = (s + 1 - (b + 1)) + 1 := by omega
    rw [e] at hn
    simp [unp, hn]
theorem unp_all (a b : Nat) : ∃ n, unp n = (a, b) := by
  obtain ⟨n, hn⟩ := unp_onto (a + b) b (by omega)
  exact ⟨n, by rw [hn]; congr 1; omega⟩
def optN : Nat → Option Nat
  | 0 => none
  | n + 1 => some n
theorem optN_all : ∀ o : Option Nat, ∃ n, optN n = o
  | none => ⟨0, rfl⟩
  | some n => ⟨n + 1, rfl⟩
def adrN (n : Nat) : Addr := ⟨(unp n).1, (unp (unp n).2).1, optN (unp (unp n).2).2⟩
theorem adrN_all (A : Addr) : ∃ n, adrN n = A := by
  obtain ⟨b, o, s⟩ := A
  obtain ⟨k, hk⟩ := optN_all s
  obtain ⟨m, hm⟩ := unp_all o k
  obtain ⟨n, hn⟩ := unp_all b m
  exact ⟨n, by unfold adrN; rw [hn]; simp only; rw [hm]; simp only; rw [hk]⟩
def optA : Nat → Option Addr
  | 0 => none
  | n + 1 => some (adrN n)
theorem optA_all : ∀ A : Option Addr, ∃ n, optA n = A
  | none => ⟨0, rfl⟩
  | some A => by obtain ⟨n, hn⟩ := adrN_all A; exact ⟨n + 1, congrArg some hn⟩
/-- The slice of a number. -/
def tokV (i : Int) : Value := .slice (optA (unp i.toNat).1) (unp (unp i.toNat).2).1 (unp (unp i.toNat).2).2
theorem tok_all (A : Option Addr) (n c : Nat) : ∃ i : Int, tokV i = .slice A n c := by
  obtain ⟨a, ha⟩ := optA_all A
  obtain ⟨m, hm⟩ := unp_all n c
  obtain ⟨k, hk⟩ := unp_all a m
  exact ⟨(k : Int), by unfold tokV; rw [Int.toNat_natCast, hk]; simp only; rw [hm, ha]⟩
@[go_sem] theorem run_store_tok (P : Program) (w : World) (a : Addr) (m : Mode) (x : Int) : (store a (tokV x) m).run P w = stored P w a (tokV x) m := run_store P w a _ m rfl
@[go_sem] theorem cells_tok (x : Int) : (tokV x).cells = #[tokV x] := rfl
/-- The kind of such a slice: one cell, and nothing behind it. -/
def kTok : Kd Int := Kd.scalar tokV (fun _ => rfl)
end Go.Proofs.Yteklimdjlihloaa.G
