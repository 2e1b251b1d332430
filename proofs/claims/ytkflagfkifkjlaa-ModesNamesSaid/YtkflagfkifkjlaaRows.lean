/-
  No cell of these rows narrows 'for every input' (looked for: loops, veiled, ifaces, maps, wideKeys, modest, calm, conditions, laid).
  DERIVED. THE GIVEN ROWS OF THIS SEAT. 6 by the template 'for every input the law returns true; each argument reads behind the call as it read before'; 0 by the template 'total and deterministic' (their statements: YtkflagfkifkjlaaTotals.lean).
  GIVEN WITH THE SEED: the statements are not yours to turn. If you find one false, say at which input.
  Laid BY PROGRAM, IN A SANDBOX (cutbox-rows.mjs): the forced cells as the released guide's own fill.sh prints them over the translation 22d06e21483d5f5e… (all of the seat's roots in one cut). By AI agents, Wed Nov 11 2026. No macro, syntax, notation, axiom, sorry.
-/
import Derived.Test.YtkflagfkifkjlaaChecked
import GoSem.Claim
import GoSem.ClaimJoined
import GoSem.ClaimMapViews
import Derived.JoinedTies
import Derived.KernelRfl
namespace Go.Proofs.Ytkflagfkifkjlaa
/- THE CELL 'sum', in the pinned program and in every row, IS THE sha256 OF THE DUMP (.gsa) THAT YtkflagfkifkjlaaProg.lean LOADS. Nothing in Lean hashes anything: it is a label: what it is worth is what the hold of that sum in a sandbox is worth. -/
noncomputable def Try.pinned : Pinned := { name := "ytkflagfkifkjlaa", sum := "22d06e21483d5f5e3d941c9a5dc03e66034b7112eeb508b8f1956bf95ef15b0a", checked := Try.checked }
namespace Rows
def none {H : Type} : Left H := { results := [], args := [] }

/-- 'covenantlaw13.ModesNames': WHATEVER THE INPUT: true; the input reads as it did. -/
def modesNamesSpec : ChangeSpec := { name := "modesNames", fn := fun _ => fun
  | [] => { results := [.lit (.bool true)], args := [] }
  | _ => none }
def modesNamesRow : OpenClaim := { program := "ytkflagfkifkjlaa", sum := "22d06e21483d5f5e3d941c9a5dc03e66034b7112eeb508b8f1956bf95ef15b0a", func := "covenant/covenantlaw13.ModesNames", spec := "modesNames", apart := false }
def ModesNamesSaid : Prop := modesNamesRow.holds Try.pinned (OpenSpec.ofChange modesNamesSpec)

/-- ITS FALSE NEIGHBOUR: 'it returns false'. Refute it at one input. -/
def modesNamesWrong : ChangeSpec := { name := "modesNames", fn := fun _ => fun
  | [] => { results := [.lit (.bool false)], args := [] }
  | _ => none }
def ModesNamesWrongFalsely : Prop := modesNamesRow.holds Try.pinned (OpenSpec.ofChange modesNamesWrong)

/-- 'covenantlaw13.ModesTell': WHATEVER THE INPUT: true; the input reads as it did. -/
def modesTellSpec : ChangeSpec := { name := "modesTell", fn := fun _ => fun
  | [d1, d2, d3] => { results := [.lit (.bool true)], args := [d1, d2, d3] }
  | _ => none }
def modesTellRow : OpenClaim := { program := "ytkflagfkifkjlaa", sum := "22d06e21483d5f5e3d941c9a5dc03e66034b7112eeb508b8f1956bf95ef15b0a", func := "covenant/covenantlaw13.ModesTell", spec := "modesTell", apart := false }
def ModesTellSaid : Prop := modesTellRow.holds Try.pinned (OpenSpec.ofChange modesTellSpec)

/-- ITS FALSE NEIGHBOUR: 'it returns false'. Refute it at one input. -/
def modesTellWrong : ChangeSpec := { name := "modesTell", fn := fun _ => fun
  | [d1, d2, d3] => { results := [.lit (.bool false)], args := [d1, d2, d3] }
  | _ => none }
def ModesTellWrongFalsely : Prop := modesTellRow.holds Try.pinned (OpenSpec.ofChange modesTellWrong)

/-- 'covenantlaw13.ModesBoth': WHATEVER THE INPUT: true; the input reads as it did. -/
def modesBothSpec : ChangeSpec := { name := "modesBoth", fn := fun _ => fun
  | [d1, d2, d3, d4] => { results := [.lit (.bool true)], args := [d1, d2, d3, d4] }
  | _ => none }
def modesBothRow : OpenClaim := { program := "ytkflagfkifkjlaa", sum := "22d06e21483d5f5e3d941c9a5dc03e66034b7112eeb508b8f1956bf95ef15b0a", func := "covenant/covenantlaw13.ModesBoth", spec := "modesBoth", apart := false }
def ModesBothSaid : Prop := modesBothRow.holds Try.pinned (OpenSpec.ofChange modesBothSpec)

/-- ITS FALSE NEIGHBOUR: 'it returns false'. Refute it at one input. -/
def modesBothWrong : ChangeSpec := { name := "modesBoth", fn := fun _ => fun
  | [d1, d2, d3, d4] => { results := [.lit (.bool false)], args := [d1, d2, d3, d4] }
  | _ => none }
def ModesBothWrongFalsely : Prop := modesBothRow.holds Try.pinned (OpenSpec.ofChange modesBothWrong)

/-- 'covenantlaw13.ModesMore': WHATEVER THE INPUT: true; the input reads as it did. -/
def modesMoreSpec : ChangeSpec := { name := "modesMore", fn := fun _ => fun
  | [d1, d2, d3, d4] => { results := [.lit (.bool true)], args := [d1, d2, d3, d4] }
  | _ => none }
def modesMoreRow : OpenClaim := { program := "ytkflagfkifkjlaa", sum := "22d06e21483d5f5e3d941c9a5dc03e66034b7112eeb508b8f1956bf95ef15b0a", func := "covenant/covenantlaw13.ModesMore", spec := "modesMore", apart := false }
def ModesMoreSaid : Prop := modesMoreRow.holds Try.pinned (OpenSpec.ofChange modesMoreSpec)

/-- ITS FALSE NEIGHBOUR: 'it returns false'. Refute it at one input. -/
def modesMoreWrong : ChangeSpec := { name := "modesMore", fn := fun _ => fun
  | [d1, d2, d3, d4] => { results := [.lit (.bool false)], args := [d1, d2, d3, d4] }
  | _ => none }
def ModesMoreWrongFalsely : Prop := modesMoreRow.holds Try.pinned (OpenSpec.ofChange modesMoreWrong)

/-- 'covenantlaw13.ModesCovered': WHATEVER THE INPUT: true; the input reads as it did. -/
def modesCoveredSpec : ChangeSpec := { name := "modesCovered", fn := fun _ => fun
  | [d1, d2, d3, d4] => { results := [.lit (.bool true)], args := [d1, d2, d3, d4] }
  | _ => none }
def modesCoveredRow : OpenClaim := { program := "ytkflagfkifkjlaa", sum := "22d06e21483d5f5e3d941c9a5dc03e66034b7112eeb508b8f1956bf95ef15b0a", func := "covenant/covenantlaw13.ModesCovered", spec := "modesCovered", apart := false }
def ModesCoveredSaid : Prop := modesCoveredRow.holds Try.pinned (OpenSpec.ofChange modesCoveredSpec)

/-- ITS FALSE NEIGHBOUR: 'it returns false'. Refute it at one input. -/
def modesCoveredWrong : ChangeSpec := { name := "modesCovered", fn := fun _ => fun
  | [d1, d2, d3, d4] => { results := [.lit (.bool false)], args := [d1, d2, d3, d4] }
  | _ => none }
def ModesCoveredWrongFalsely : Prop := modesCoveredRow.holds Try.pinned (OpenSpec.ofChange modesCoveredWrong)

/-- 'covenantlaw13.ModesEnds': WHATEVER THE INPUT: true; the input reads as it did. -/
def modesEndsSpec : ChangeSpec := { name := "modesEnds", fn := fun _ => fun
  | [d1, d2, d3] => { results := [.lit (.bool true)], args := [d1, d2, d3] }
  | _ => none }
def modesEndsRow : OpenClaim := { program := "ytkflagfkifkjlaa", sum := "22d06e21483d5f5e3d941c9a5dc03e66034b7112eeb508b8f1956bf95ef15b0a", func := "covenant/covenantlaw13.ModesEnds", spec := "modesEnds", apart := false }
def ModesEndsSaid : Prop := modesEndsRow.holds Try.pinned (OpenSpec.ofChange modesEndsSpec)

/-- ITS FALSE NEIGHBOUR: 'it returns false'. Refute it at one input. -/
def modesEndsWrong : ChangeSpec := { name := "modesEnds", fn := fun _ => fun
  | [d1, d2, d3] => { results := [.lit (.bool false)], args := [d1, d2, d3] }
  | _ => none }
def ModesEndsWrongFalsely : Prop := modesEndsRow.holds Try.pinned (OpenSpec.ofChange modesEndsWrong)

/- THE SECOND FORM. 'bulk': how many values and letters a reading holds, each counted each time it is reached (what is shared counts as often as it is met; a slice's spare places count too). A statement '..UptoSaid' is the law's where the arguments, and the package variables that the reading takes, are together of bulk at most 1048576: NARROWER than '..Said'. Prove '..Said' where nothing that the law and all that it calls make is longer than what came in: it says more and counts as full. Else prove '..UptoSaid'. A law counts once. -/
mutual
def uptoBulk {H : Type} : DataW H → Nat
  | .lit (.string bytes) => bytes.length + 1
  | .lit _ => 1
  | .nil => 1
  | .ptr d => uptoBulk d + 1
  | .slice elems spare => uptoBulkAll elems + uptoBulkAll spare + 1
  | .agg parts => uptoBulkAll parts + 1
  | .iface _ d => uptoBulk d + 1
  | .map entries => uptoBulkEntries entries + 1
  | .held _ => 1
def uptoBulkAll {H : Type} : List (DataW H) → Nat
  | [] => 0
  | d :: r => uptoBulk d + uptoBulkAll r
def uptoBulkEntries {H : Type} : List (Lit × DataW H) → Nat
  | [] => 0
  | x :: r => uptoBulkEntry x + uptoBulkEntries r
def uptoBulkEntry {H : Type} : Lit × DataW H → Nat
  | (.string bytes, d) => bytes.length + uptoBulk d + 1
  | (_, d) => uptoBulk d + 1
 end
def uptoSmall : (H : Type) → List (DataW H) → Bool := fun _ ds => decide (uptoBulkAll ds ≤ 1048576)
def OpenSpec.upto (s : _root_.Go.ChangeSpec) : _root_.Go.OpenSpec := { _root_.Go.OpenSpec.ofChange s with cond := some uptoSmall }

/-- 'covenantlaw13.ModesNames', WHERE WHAT IT READS IS OF BULK AT MOST 1048576: true; the input reads as it did. -/
def modesNamesUptoRow : OpenClaim := { program := "ytkflagfkifkjlaa", sum := "22d06e21483d5f5e3d941c9a5dc03e66034b7112eeb508b8f1956bf95ef15b0a", func := "covenant/covenantlaw13.ModesNames", spec := "modesNames", apart := false, narrowed := true }
def ModesNamesUptoSaid : Prop := modesNamesUptoRow.holds Try.pinned (OpenSpec.upto modesNamesSpec)

/-- 'covenantlaw13.ModesTell', WHERE WHAT IT READS IS OF BULK AT MOST 1048576: true; the input reads as it did. -/
def modesTellUptoRow : OpenClaim := { program := "ytkflagfkifkjlaa", sum := "22d06e21483d5f5e3d941c9a5dc03e66034b7112eeb508b8f1956bf95ef15b0a", func := "covenant/covenantlaw13.ModesTell", spec := "modesTell", apart := false, narrowed := true }
def ModesTellUptoSaid : Prop := modesTellUptoRow.holds Try.pinned (OpenSpec.upto modesTellSpec)

/-- 'covenantlaw13.ModesBoth', WHERE WHAT IT READS IS OF BULK AT MOST 1048576: true; the input reads as it did. -/
def modesBothUptoRow : OpenClaim := { program := "ytkflagfkifkjlaa", sum := "22d06e21483d5f5e3d941c9a5dc03e66034b7112eeb508b8f1956bf95ef15b0a", func := "covenant/covenantlaw13.ModesBoth", spec := "modesBoth", apart := false, narrowed := true }
def ModesBothUptoSaid : Prop := modesBothUptoRow.holds Try.pinned (OpenSpec.upto modesBothSpec)

/-- 'covenantlaw13.ModesMore', WHERE WHAT IT READS IS OF BULK AT MOST 1048576: true; the input reads as it did. -/
def modesMoreUptoRow : OpenClaim := { program := "ytkflagfkifkjlaa", sum := "22d06e21483d5f5e3d941c9a5dc03e66034b7112eeb508b8f1956bf95ef15b0a", func := "covenant/covenantlaw13.ModesMore", spec := "modesMore", apart := false, narrowed := true }
def ModesMoreUptoSaid : Prop := modesMoreUptoRow.holds Try.pinned (OpenSpec.upto modesMoreSpec)

/-- 'covenantlaw13.ModesCovered', WHERE WHAT IT READS IS OF BULK AT MOST 1048576: true; the input reads as it did. -/
def modesCoveredUptoRow : OpenClaim := { program := "ytkflagfkifkjlaa", sum := "22d06e21483d5f5e3d941c9a5dc03e66034b7112eeb508b8f1956bf95ef15b0a", func := "covenant/covenantlaw13.ModesCovered", spec := "modesCovered", apart := false, narrowed := true }
def ModesCoveredUptoSaid : Prop := modesCoveredUptoRow.holds Try.pinned (OpenSpec.upto modesCoveredSpec)

/-- 'covenantlaw13.ModesEnds', WHERE WHAT IT READS IS OF BULK AT MOST 1048576: true; the input reads as it did. -/
def modesEndsUptoRow : OpenClaim := { program := "ytkflagfkifkjlaa", sum := "22d06e21483d5f5e3d941c9a5dc03e66034b7112eeb508b8f1956bf95ef15b0a", func := "covenant/covenantlaw13.ModesEnds", spec := "modesEnds", apart := false, narrowed := true }
def ModesEndsUptoSaid : Prop := modesEndsUptoRow.holds Try.pinned (OpenSpec.upto modesEndsSpec)

end Rows
end Go.Proofs.Ytkflagfkifkjlaa
