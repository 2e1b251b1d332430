/-
  No cell of these rows narrows 'for every input' (looked for: loops, veiled, ifaces, maps, wideKeys, modest, calm, conditions, laid).
  DERIVED. THE GIVEN ROWS OF THIS SEAT. 3 by the template 'for every input the law returns true; each argument reads behind the call as it read before'; 0 by the template 'total and deterministic' (their statements: YtddmllocjocipaaTotals.lean).
  GIVEN WITH THE SEED: the statements are not yours to turn. If you find one false, say at which input.
  Laid BY PROGRAM, IN A SANDBOX (cutbox-rows.mjs): the forced cells as the released guide's own fill.sh prints them over the translation 311c58f121793ee1… (all of the seat's roots in one cut). By AI agents, Wed Nov 11 2026. No macro, syntax, notation, axiom, sorry.
-/
import Derived.Test.YtddmllocjocipaaChecked
import GoSem.Claim
import GoSem.ClaimJoined
import GoSem.ClaimMapViews
import Derived.JoinedTies
import Derived.KernelRfl
namespace Go.Proofs.Ytddmllocjocipaa
/- THE CELL 'sum', in the pinned program and in every row, IS THE sha256 OF THE DUMP (.gsa) THAT YtddmllocjocipaaProg.lean LOADS. Nothing in Lean hashes anything: it is a label: what it is worth is what the hold of that sum in a sandbox is worth. -/
noncomputable def Try.pinned : Pinned := { name := "ytddmllocjocipaa", sum := "311c58f121793ee170645b8543e667fbcdb3f830b042ce540229ece01a15321a", checked := Try.checked }
namespace Rows
def none {H : Type} : Left H := { results := [], args := [] }

/-- 'covenantlaw06.KeyNames': WHATEVER THE INPUT: true; the input reads as it did. -/
def keyNamesSpec : ChangeSpec := { name := "keyNames", fn := fun _ => fun
  | [] => { results := [.lit (.bool true)], args := [] }
  | _ => none }
def keyNamesRow : OpenClaim := { program := "ytddmllocjocipaa", sum := "311c58f121793ee170645b8543e667fbcdb3f830b042ce540229ece01a15321a", func := "covenant/covenantlaw06.KeyNames", spec := "keyNames", unfollowed := true, recurses := true, apart := false }
def KeyNamesSaid : Prop := keyNamesRow.holds Try.pinned (OpenSpec.ofChange keyNamesSpec)

/-- ITS FALSE NEIGHBOUR: 'it returns false'. Refute it at one input. -/
def keyNamesWrong : ChangeSpec := { name := "keyNames", fn := fun _ => fun
  | [] => { results := [.lit (.bool false)], args := [] }
  | _ => none }
def KeyNamesWrongFalsely : Prop := keyNamesRow.holds Try.pinned (OpenSpec.ofChange keyNamesWrong)

/-- 'covenantlaw06.KeySet': WHATEVER THE INPUT: true; the input reads as it did. -/
def keySetSpec : ChangeSpec := { name := "keySet", fn := fun _ => fun
  | [d1, d2, d3, d4] => { results := [.lit (.bool true)], args := [d1, d2, d3, d4] }
  | _ => none }
def keySetRow : OpenClaim := { program := "ytddmllocjocipaa", sum := "311c58f121793ee170645b8543e667fbcdb3f830b042ce540229ece01a15321a", func := "covenant/covenantlaw06.KeySet", spec := "keySet", unfollowed := true, recurses := true, apart := false }
def KeySetSaid : Prop := keySetRow.holds Try.pinned (OpenSpec.ofChange keySetSpec)

/-- ITS FALSE NEIGHBOUR: 'it returns false'. Refute it at one input. -/
def keySetWrong : ChangeSpec := { name := "keySet", fn := fun _ => fun
  | [d1, d2, d3, d4] => { results := [.lit (.bool false)], args := [d1, d2, d3, d4] }
  | _ => none }
def KeySetWrongFalsely : Prop := keySetRow.holds Try.pinned (OpenSpec.ofChange keySetWrong)

/-- 'covenantlaw06.KeyTurned': WHATEVER THE INPUT: true; the input reads as it did. -/
def keyTurnedSpec : ChangeSpec := { name := "keyTurned", fn := fun _ => fun
  | [d1, d2, d3] => { results := [.lit (.bool true)], args := [d1, d2, d3] }
  | _ => none }
def keyTurnedRow : OpenClaim := { program := "ytddmllocjocipaa", sum := "311c58f121793ee170645b8543e667fbcdb3f830b042ce540229ece01a15321a", func := "covenant/covenantlaw06.KeyTurned", spec := "keyTurned", unfollowed := true, recurses := true, apart := false }
def KeyTurnedSaid : Prop := keyTurnedRow.holds Try.pinned (OpenSpec.ofChange keyTurnedSpec)

/-- ITS FALSE NEIGHBOUR: 'it returns false'. Refute it at one input. -/
def keyTurnedWrong : ChangeSpec := { name := "keyTurned", fn := fun _ => fun
  | [d1, d2, d3] => { results := [.lit (.bool false)], args := [d1, d2, d3] }
  | _ => none }
def KeyTurnedWrongFalsely : Prop := keyTurnedRow.holds Try.pinned (OpenSpec.ofChange keyTurnedWrong)

/- THE SECOND FORM. 'bulk': how many values and letters a reading holds, each counted each time it is reached (what is shared counts as often as it is met; a slice's spare places count too). A statement '..UptoSaid' is the law's where the arguments, and the package variables that the reading takes, are together of bulk at most 1048576: NARROWER than '..Said'. Prove '..Said' where nothing that the law and all that it calls make is longer than what came in: it says more and counts as full. Else prove '..UptoSaid'. A law counts once. -/
mutual
def uptoBulk {H : Type} : DataW H → Nat
  | .lit (.string bytes) => bytes.length + 1
  | .lit _ => 1
  | .nil => 1
  | .ptr d => uptoBulk d + 1
  | .slice elems spare => uptoBulkAll elems + uptoBulkAll spare + 1
  | .agg parts => uptoBulkAll parts + 1
  | .iface _ d => uptoBulk d + 1
  | .map entries => uptoBulkEntries entries + 1
  | .held _ => 1
def uptoBulkAll {H : Type} : List (DataW H) → Nat
  | [] => 0
  | d :: r => uptoBulk d + uptoBulkAll r
def uptoBulkEntries {H : Type} : List (Lit × DataW H) → Nat
  | [] => 0
  | x :: r => uptoBulkEntry x + uptoBulkEntries r
def uptoBulkEntry {H : Type} : Lit × DataW H → Nat
  | (.string bytes, d) => bytes.length + uptoBulk d + 1
  | (_, d) => uptoBulk d + 1
 end
def uptoSmall : (H : Type) → List (DataW H) → Bool := fun _ ds => decide (uptoBulkAll ds ≤ 1048576)
def OpenSpec.upto (s : _root_.Go.ChangeSpec) : _root_.Go.OpenSpec := { _root_.Go.OpenSpec.ofChange s with cond := some uptoSmall }

/-- 'covenantlaw06.KeyNames', WHERE WHAT IT READS IS OF BULK AT MOST 1048576: true; the input reads as it did. -/
def keyNamesUptoRow : OpenClaim := { program := "ytddmllocjocipaa", sum := "311c58f121793ee170645b8543e667fbcdb3f830b042ce540229ece01a15321a", func := "covenant/covenantlaw06.KeyNames", spec := "keyNames", unfollowed := true, recurses := true, apart := false, narrowed := true }
def KeyNamesUptoSaid : Prop := keyNamesUptoRow.holds Try.pinned (OpenSpec.upto keyNamesSpec)

/-- 'covenantlaw06.KeySet', WHERE WHAT IT READS IS OF BULK AT MOST 1048576: true; the input reads as it did. -/
def keySetUptoRow : OpenClaim := { program := "ytddmllocjocipaa", sum := "311c58f121793ee170645b8543e667fbcdb3f830b042ce540229ece01a15321a", func := "covenant/covenantlaw06.KeySet", spec := "keySet", unfollowed := true, recurses := true, apart := false, narrowed := true }
def KeySetUptoSaid : Prop := keySetUptoRow.holds Try.pinned (OpenSpec.upto keySetSpec)

/-- 'covenantlaw06.KeyTurned', WHERE WHAT IT READS IS OF BULK AT MOST 1048576: true; the input reads as it did. -/
def keyTurnedUptoRow : OpenClaim := { program := "ytddmllocjocipaa", sum := "311c58f121793ee170645b8543e667fbcdb3f830b042ce540229ece01a15321a", func := "covenant/covenantlaw06.KeyTurned", spec := "keyTurned", unfollowed := true, recurses := true, apart := false, narrowed := true }
def KeyTurnedUptoSaid : Prop := keyTurnedUptoRow.holds Try.pinned (OpenSpec.upto keyTurnedSpec)

end Rows
end Go.Proofs.Ytddmllocjocipaa
