/-
  NARROWER THAN 'FOR EVERY INPUT', by the rows' own cells (each row's printed sentence says how): GrantsSteps: loops · GrantsMore: loops · GrantsMembers: loops · GrantsGiven: loops · GrantsTaken: loops · GrantsAlone: loops.
  DERIVED. THE GIVEN ROWS OF THIS SEAT. 7 by the template 'for every input the law returns true; each argument reads behind the call as it read before'; 0 by the template 'total and deterministic' (their statements: YteklimdjlihloaaTotals.lean).
  GIVEN WITH THE SEED: the statements are not yours to turn. If you find one false, say at which input.
  Laid BY PROGRAM, IN A SANDBOX (cutbox-rows.mjs): the forced cells as the released guide's own fill.sh prints them over the translation 844dfcda310b593a… (all of the seat's roots in one cut). By AI agents, Wed Nov 11 2026. No macro, syntax, notation, axiom, sorry.
-/
import Derived.Test.YteklimdjlihloaaChecked
import GoSem.Claim
import GoSem.ClaimJoined
import GoSem.ClaimMapViews
import Derived.JoinedTies
import Derived.KernelRfl
namespace Go.Proofs.Yteklimdjlihloaa
/- THE CELL 'sum', in the pinned program and in every row, IS THE sha256 OF THE DUMP (.gsa) THAT YteklimdjlihloaaProg.lean LOADS. Nothing in Lean hashes anything: it is a label: what it is worth is what the hold of that sum in a sandbox is worth. -/
noncomputable def Try.pinned : Pinned := { name := "yteklimdjlihloaa", sum := "844dfcda310b593ac2da4a59738a8b914670c6658d85b517fa858d17244bf166", checked := Try.checked }
namespace Rows
def none {H : Type} : Left H := { results := [], args := [] }

/-- 'covenantlaw19.GrantsSteps': WHATEVER THE INPUT: true; the input reads as it did. -/
def grantsStepsSpec : ChangeSpec := { name := "grantsSteps", fn := fun _ => fun
  | [d] => { results := [.lit (.bool true)], args := [d] }
  | _ => none }
def grantsStepsRow : OpenClaim := { program := "yteklimdjlihloaa", sum := "844dfcda310b593ac2da4a59738a8b914670c6658d85b517fa858d17244bf166", func := "covenant/covenantlaw19.GrantsSteps", spec := "grantsSteps", unfollowed := true, recurses := true, loops := true, apart := false }
def GrantsStepsSaid : Prop := grantsStepsRow.holds Try.pinned (OpenSpec.ofChange grantsStepsSpec)

/-- ITS FALSE NEIGHBOUR: 'it returns false'. Refute it at one input. -/
def grantsStepsWrong : ChangeSpec := { name := "grantsSteps", fn := fun _ => fun
  | [d] => { results := [.lit (.bool false)], args := [d] }
  | _ => none }
def GrantsStepsWrongFalsely : Prop := grantsStepsRow.holds Try.pinned (OpenSpec.ofChange grantsStepsWrong)

/-- 'covenantlaw19.GrantsMore': WHATEVER THE INPUT: true; the input reads as it did. -/
def grantsMoreSpec : ChangeSpec := { name := "grantsMore", fn := fun _ => fun
  | [d1, d2, d3, d4, d5] => { results := [.lit (.bool true)], args := [d1, d2, d3, d4, d5] }
  | _ => none }
def grantsMoreRow : OpenClaim := { program := "yteklimdjlihloaa", sum := "844dfcda310b593ac2da4a59738a8b914670c6658d85b517fa858d17244bf166", func := "covenant/covenantlaw19.GrantsMore", spec := "grantsMore", unfollowed := true, recurses := true, loops := true, apart := false }
def GrantsMoreSaid : Prop := grantsMoreRow.holds Try.pinned (OpenSpec.ofChange grantsMoreSpec)

/-- ITS FALSE NEIGHBOUR: 'it returns false'. Refute it at one input. -/
def grantsMoreWrong : ChangeSpec := { name := "grantsMore", fn := fun _ => fun
  | [d1, d2, d3, d4, d5] => { results := [.lit (.bool false)], args := [d1, d2, d3, d4, d5] }
  | _ => none }
def GrantsMoreWrongFalsely : Prop := grantsMoreRow.holds Try.pinned (OpenSpec.ofChange grantsMoreWrong)

/-- 'covenantlaw19.GrantsMembers': WHATEVER THE INPUT: true; the input reads as it did. -/
def grantsMembersSpec : ChangeSpec := { name := "grantsMembers", fn := fun _ => fun
  | [d1, d2, d3, d4, d5] => { results := [.lit (.bool true)], args := [d1, d2, d3, d4, d5] }
  | _ => none }
def grantsMembersRow : OpenClaim := { program := "yteklimdjlihloaa", sum := "844dfcda310b593ac2da4a59738a8b914670c6658d85b517fa858d17244bf166", func := "covenant/covenantlaw19.GrantsMembers", spec := "grantsMembers", unfollowed := true, recurses := true, loops := true, apart := false }
def GrantsMembersSaid : Prop := grantsMembersRow.holds Try.pinned (OpenSpec.ofChange grantsMembersSpec)

/-- ITS FALSE NEIGHBOUR: 'it returns false'. Refute it at one input. -/
def grantsMembersWrong : ChangeSpec := { name := "grantsMembers", fn := fun _ => fun
  | [d1, d2, d3, d4, d5] => { results := [.lit (.bool false)], args := [d1, d2, d3, d4, d5] }
  | _ => none }
def GrantsMembersWrongFalsely : Prop := grantsMembersRow.holds Try.pinned (OpenSpec.ofChange grantsMembersWrong)

/-- 'covenantlaw19.GrantsGiven': WHATEVER THE INPUT: true; the input reads as it did. -/
def grantsGivenSpec : ChangeSpec := { name := "grantsGiven", fn := fun _ => fun
  | [d1, d2, d3] => { results := [.lit (.bool true)], args := [d1, d2, d3] }
  | _ => none }
def grantsGivenRow : OpenClaim := { program := "yteklimdjlihloaa", sum := "844dfcda310b593ac2da4a59738a8b914670c6658d85b517fa858d17244bf166", func := "covenant/covenantlaw19.GrantsGiven", spec := "grantsGiven", unfollowed := true, recurses := true, loops := true, apart := false }
def GrantsGivenSaid : Prop := grantsGivenRow.holds Try.pinned (OpenSpec.ofChange grantsGivenSpec)

/-- ITS FALSE NEIGHBOUR: 'it returns false'. Refute it at one input. -/
def grantsGivenWrong : ChangeSpec := { name := "grantsGiven", fn := fun _ => fun
  | [d1, d2, d3] => { results := [.lit (.bool false)], args := [d1, d2, d3] }
  | _ => none }
def GrantsGivenWrongFalsely : Prop := grantsGivenRow.holds Try.pinned (OpenSpec.ofChange grantsGivenWrong)

/-- 'covenantlaw19.GrantsTaken': WHATEVER THE INPUT: true; the input reads as it did. -/
def grantsTakenSpec : ChangeSpec := { name := "grantsTaken", fn := fun _ => fun
  | [d1, d2, d3, d4] => { results := [.lit (.bool true)], args := [d1, d2, d3, d4] }
  | _ => none }
def grantsTakenRow : OpenClaim := { program := "yteklimdjlihloaa", sum := "844dfcda310b593ac2da4a59738a8b914670c6658d85b517fa858d17244bf166", func := "covenant/covenantlaw19.GrantsTaken", spec := "grantsTaken", unfollowed := true, recurses := true, loops := true, apart := false }
def GrantsTakenSaid : Prop := grantsTakenRow.holds Try.pinned (OpenSpec.ofChange grantsTakenSpec)

/-- ITS FALSE NEIGHBOUR: 'it returns false'. Refute it at one input. -/
def grantsTakenWrong : ChangeSpec := { name := "grantsTaken", fn := fun _ => fun
  | [d1, d2, d3, d4] => { results := [.lit (.bool false)], args := [d1, d2, d3, d4] }
  | _ => none }
def GrantsTakenWrongFalsely : Prop := grantsTakenRow.holds Try.pinned (OpenSpec.ofChange grantsTakenWrong)

/-- 'covenantlaw19.GrantsAlone': WHATEVER THE INPUT: true; the input reads as it did. -/
def grantsAloneSpec : ChangeSpec := { name := "grantsAlone", fn := fun _ => fun
  | [d1, d2] => { results := [.lit (.bool true)], args := [d1, d2] }
  | _ => none }
def grantsAloneRow : OpenClaim := { program := "yteklimdjlihloaa", sum := "844dfcda310b593ac2da4a59738a8b914670c6658d85b517fa858d17244bf166", func := "covenant/covenantlaw19.GrantsAlone", spec := "grantsAlone", unfollowed := true, recurses := true, loops := true, apart := false }
def GrantsAloneSaid : Prop := grantsAloneRow.holds Try.pinned (OpenSpec.ofChange grantsAloneSpec)

/-- ITS FALSE NEIGHBOUR: 'it returns false'. Refute it at one input. -/
def grantsAloneWrong : ChangeSpec := { name := "grantsAlone", fn := fun _ => fun
  | [d1, d2] => { results := [.lit (.bool false)], args := [d1, d2] }
  | _ => none }
def GrantsAloneWrongFalsely : Prop := grantsAloneRow.holds Try.pinned (OpenSpec.ofChange grantsAloneWrong)

/-- 'covenantlaw19.GrantsNames': WHATEVER THE INPUT: true; the input reads as it did. -/
def grantsNamesSpec : ChangeSpec := { name := "grantsNames", fn := fun _ => fun
  | [] => { results := [.lit (.bool true)], args := [] }
  | _ => none }
def grantsNamesRow : OpenClaim := { program := "yteklimdjlihloaa", sum := "844dfcda310b593ac2da4a59738a8b914670c6658d85b517fa858d17244bf166", func := "covenant/covenantlaw19.GrantsNames", spec := "grantsNames", unfollowed := true, recurses := true, apart := false }
def GrantsNamesSaid : Prop := grantsNamesRow.holds Try.pinned (OpenSpec.ofChange grantsNamesSpec)

/-- ITS FALSE NEIGHBOUR: 'it returns false'. Refute it at one input. -/
def grantsNamesWrong : ChangeSpec := { name := "grantsNames", fn := fun _ => fun
  | [] => { results := [.lit (.bool false)], args := [] }
  | _ => none }
def GrantsNamesWrongFalsely : Prop := grantsNamesRow.holds Try.pinned (OpenSpec.ofChange grantsNamesWrong)

/- THE SECOND FORM. 'bulk': how many values and letters a reading holds, each counted each time it is reached (what is shared counts as often as it is met; a slice's spare places count too). A statement '..UptoSaid' is the law's where the arguments, and the package variables that the reading takes, are together of bulk at most 1048576: NARROWER than '..Said'. Prove '..Said' where nothing that the law and all that it calls make is longer than what came in: it says more and counts as full. Else prove '..UptoSaid'. A law counts once. -/
mutual
def uptoBulk {H : Type} : DataW H → Nat
  | .lit (.string bytes) => bytes.length + 1
  | .lit _ => 1
  | .nil => 1
  | .ptr d => uptoBulk d + 1
  | .slice elems spare => uptoBulkAll elems + uptoBulkAll spare + 1
  | .agg parts => uptoBulkAll parts + 1
  | .iface _ d => uptoBulk d + 1
  | .map entries => uptoBulkEntries entries + 1
  | .held _ => 1
def uptoBulkAll {H : Type} : List (DataW H) → Nat
  | [] => 0
  | d :: r => uptoBulk d + uptoBulkAll r
def uptoBulkEntries {H : Type} : List (Lit × DataW H) → Nat
  | [] => 0
  | x :: r => uptoBulkEntry x + uptoBulkEntries r
def uptoBulkEntry {H : Type} : Lit × DataW H → Nat
  | (.string bytes, d) => bytes.length + uptoBulk d + 1
  | (_, d) => uptoBulk d + 1
 end
def uptoSmall : (H : Type) → List (DataW H) → Bool := fun _ ds => decide (uptoBulkAll ds ≤ 1048576)
def OpenSpec.upto (s : _root_.Go.ChangeSpec) : _root_.Go.OpenSpec := { _root_.Go.OpenSpec.ofChange s with cond := some uptoSmall }

/-- 'covenantlaw19.GrantsSteps', WHERE WHAT IT READS IS OF BULK AT MOST 1048576: true; the input reads as it did. -/
def grantsStepsUptoRow : OpenClaim := { program := "yteklimdjlihloaa", sum := "844dfcda310b593ac2da4a59738a8b914670c6658d85b517fa858d17244bf166", func := "covenant/covenantlaw19.GrantsSteps", spec := "grantsSteps", unfollowed := true, recurses := true, loops := true, apart := false, narrowed := true }
def GrantsStepsUptoSaid : Prop := grantsStepsUptoRow.holds Try.pinned (OpenSpec.upto grantsStepsSpec)

/-- 'covenantlaw19.GrantsMore', WHERE WHAT IT READS IS OF BULK AT MOST 1048576: true; the input reads as it did. -/
def grantsMoreUptoRow : OpenClaim := { program := "yteklimdjlihloaa", sum := "844dfcda310b593ac2da4a59738a8b914670c6658d85b517fa858d17244bf166", func := "covenant/covenantlaw19.GrantsMore", spec := "grantsMore", unfollowed := true, recurses := true, loops := true, apart := false, narrowed := true }
def GrantsMoreUptoSaid : Prop := grantsMoreUptoRow.holds Try.pinned (OpenSpec.upto grantsMoreSpec)

/-- 'covenantlaw19.GrantsMembers', WHERE WHAT IT READS IS OF BULK AT MOST 1048576: true; the input reads as it did. -/
def grantsMembersUptoRow : OpenClaim := { program := "yteklimdjlihloaa", sum := "844dfcda310b593ac2da4a59738a8b914670c6658d85b517fa858d17244bf166", func := "covenant/covenantlaw19.GrantsMembers", spec := "grantsMembers", unfollowed := true, recurses := true, loops := true, apart := false, narrowed := true }
def GrantsMembersUptoSaid : Prop := grantsMembersUptoRow.holds Try.pinned (OpenSpec.upto grantsMembersSpec)

/-- 'covenantlaw19.GrantsGiven', WHERE WHAT IT READS IS OF BULK AT MOST 1048576: true; the input reads as it did. -/
def grantsGivenUptoRow : OpenClaim := { program := "yteklimdjlihloaa", sum := "844dfcda310b593ac2da4a59738a8b914670c6658d85b517fa858d17244bf166", func := "covenant/covenantlaw19.GrantsGiven", spec := "grantsGiven", unfollowed := true, recurses := true, loops := true, apart := false, narrowed := true }
def GrantsGivenUptoSaid : Prop := grantsGivenUptoRow.holds Try.pinned (OpenSpec.upto grantsGivenSpec)

/-- 'covenantlaw19.GrantsTaken', WHERE WHAT IT READS IS OF BULK AT MOST 1048576: true; the input reads as it did. -/
def grantsTakenUptoRow : OpenClaim := { program := "yteklimdjlihloaa", sum := "844dfcda310b593ac2da4a59738a8b914670c6658d85b517fa858d17244bf166", func := "covenant/covenantlaw19.GrantsTaken", spec := "grantsTaken", unfollowed := true, recurses := true, loops := true, apart := false, narrowed := true }
def GrantsTakenUptoSaid : Prop := grantsTakenUptoRow.holds Try.pinned (OpenSpec.upto grantsTakenSpec)

/-- 'covenantlaw19.GrantsAlone', WHERE WHAT IT READS IS OF BULK AT MOST 1048576: true; the input reads as it did. -/
def grantsAloneUptoRow : OpenClaim := { program := "yteklimdjlihloaa", sum := "844dfcda310b593ac2da4a59738a8b914670c6658d85b517fa858d17244bf166", func := "covenant/covenantlaw19.GrantsAlone", spec := "grantsAlone", unfollowed := true, recurses := true, loops := true, apart := false, narrowed := true }
def GrantsAloneUptoSaid : Prop := grantsAloneUptoRow.holds Try.pinned (OpenSpec.upto grantsAloneSpec)

/-- 'covenantlaw19.GrantsNames', WHERE WHAT IT READS IS OF BULK AT MOST 1048576: true; the input reads as it did. -/
def grantsNamesUptoRow : OpenClaim := { program := "yteklimdjlihloaa", sum := "844dfcda310b593ac2da4a59738a8b914670c6658d85b517fa858d17244bf166", func := "covenant/covenantlaw19.GrantsNames", spec := "grantsNames", unfollowed := true, recurses := true, apart := false, narrowed := true }
def GrantsNamesUptoSaid : Prop := grantsNamesUptoRow.holds Try.pinned (OpenSpec.upto grantsNamesSpec)

end Rows
end Go.Proofs.Yteklimdjlihloaa
