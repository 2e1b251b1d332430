/-
  DERIVED. GIVEN WITH THE SEED: THE CARDS: each row of YtddmllocjocipaaDoorRows.lean that lists a variable, with what it lists TIED to the program's text (the seventh form; the later family's looks); each row that meets fmt, with fmt's text TOLD by the authors' own Lean function (tested against real Go, not proved from fmt's source: count such statements apart). THE CARD IS WHAT COUNTS. Prove the row's statement (the work); the ties are given (YtddmllocjocipaaDoorTie.lean); close each card by the builder's one call (the guide's Derived/Test/ToyasCard.lean, 'card_holds'). Laid BY PROGRAM, IN A SANDBOX (cutbox-door.mjs). By AI agents, Wed Nov 11 2026. No macro, syntax, notation, axiom, sorry.
-/
import Derived.Test.YtddmllocjocipaaDoorRows
import GoSem.ClaimSeven
namespace Go.Proofs.YtddmllocjocipaaDoor
namespace Rows

/-- THE TIED CARD OF 'covenantlaw01.ValueTells'. -/
def valueTellsCard : Claim7 := { stood := { row := valueTellsRow, standIns := [], harness := (true, "4bb5b5e037710e2d58da1133b0cf26100f3218a8e64dbbf302e2c9d61b1505b8"), looks := true }, kinds := [], alts := [], laidByText := true, laidKinds := [.data, .data, .data, .data, .pinned], laidTests := true, laidLooks := .later }
def ValueTellsCardSaid : Prop := Claim7.holds Tryd.pinned (.plain (OpenSpec.ofChange valueTellsSpec)) valueTellsCard

/-- THE TIED CARD OF 'covenantlaw05.RowTells'. -/
def rowTellsCard : Claim7 := { stood := { row := rowTellsRow, standIns := [], harness := (true, "4bb5b5e037710e2d58da1133b0cf26100f3218a8e64dbbf302e2c9d61b1505b8"), looks := true }, kinds := [], alts := [], laidByText := true, laidKinds := [.data, .data, .data, .data, .pinned], laidTests := true, laidLooks := .later }
def RowTellsCardSaid : Prop := Claim7.holds Tryd.pinned (.plain (OpenSpec.ofChange rowTellsSpec)) rowTellsCard

/-- THE TIED CARD OF 'covenantlaw06.KeyTells'. -/
def keyTellsCard : Claim7 := { stood := { row := keyTellsRow, standIns := [], harness := (true, "4bb5b5e037710e2d58da1133b0cf26100f3218a8e64dbbf302e2c9d61b1505b8"), looks := true }, kinds := [], alts := [], laidByText := true, laidKinds := [.data, .data, .data, .data, .pinned], laidTests := true, laidLooks := .later }
def KeyTellsCardSaid : Prop := Claim7.holds Tryd.pinned (.plain (OpenSpec.ofChange keyTellsSpec)) keyTellsCard

/-- THE TIED CARD OF 'covenantlaw06.KeySame'. -/
def keySameCard : Claim7 := { stood := { row := keySameRow, standIns := [], harness := (true, "4bb5b5e037710e2d58da1133b0cf26100f3218a8e64dbbf302e2c9d61b1505b8"), looks := true }, kinds := [], alts := [], laidByText := true, laidKinds := [.data, .data, .data, .data, .pinned], laidTests := true, laidLooks := .later }
def KeySameCardSaid : Prop := Claim7.holds Tryd.pinned (.plain (OpenSpec.ofChange keySameSpec)) keySameCard

/-- THE TIED CARD OF 'covenantlaw01.ValueParses'. -/
def valueParsesCard : Claim7 := { stood := { row := valueParsesRow, standIns := [], harness := (true, "4bb5b5e037710e2d58da1133b0cf26100f3218a8e64dbbf302e2c9d61b1505b8"), looks := true }, kinds := [], alts := [], laidByText := true, laidKinds := [.data, .data, .data, .data, .sentinel, .sentinel, .pinned], laidTests := true, laidLooks := .later }
def ValueParsesCardSaid : Prop := Claim7.holds Tryd.pinned (.plain (OpenSpec.ofChange valueParsesSpec)) valueParsesCard

/-- THE TIED CARD OF 'covenantlaw01.ValueBack'. -/
def valueBackCard : Claim7 := { stood := { row := valueBackRow, standIns := [], harness := (true, "4bb5b5e037710e2d58da1133b0cf26100f3218a8e64dbbf302e2c9d61b1505b8"), looks := true }, kinds := [], alts := [], laidByText := true, laidKinds := [.data, .data, .data, .data, .sentinel, .sentinel, .pinned], laidTests := true, laidLooks := .later }
def ValueBackCardSaid : Prop := Claim7.holds Tryd.pinned (.plain (OpenSpec.ofChange valueBackSpec)) valueBackCard

/-- THE TIED CARD OF 'covenantlaw01.ValueOrder'. -/
def valueOrderCard : Claim7 := { stood := { row := valueOrderRow, standIns := [], harness := (true, "4bb5b5e037710e2d58da1133b0cf26100f3218a8e64dbbf302e2c9d61b1505b8"), looks := true }, kinds := [], alts := [], laidByText := true, laidKinds := [.data, .data, .data, .data, .sentinel, .sentinel, .pinned], laidTests := true, laidLooks := .later }
def ValueOrderCardSaid : Prop := Claim7.holds Tryd.pinned (.plain (OpenSpec.ofChange valueOrderSpec)) valueOrderCard

/-- THE TIED CARD OF 'covenantlaw01.ValueKinds'. -/
def valueKindsCard : Claim7 := { stood := { row := valueKindsRow, standIns := [], harness := (true, "4bb5b5e037710e2d58da1133b0cf26100f3218a8e64dbbf302e2c9d61b1505b8"), looks := true }, kinds := [], alts := [], laidByText := true, laidKinds := [.data, .data, .data, .data, .sentinel, .sentinel, .pinned], laidTests := true, laidLooks := .later }
def ValueKindsCardSaid : Prop := Claim7.holds Tryd.pinned (.plain (OpenSpec.ofChange valueKindsSpec)) valueKindsCard

/-- THE TIED CARD OF 'covenantlaw01.ValueApart'. -/
def valueApartCard : Claim7 := { stood := { row := valueApartRow, standIns := [], harness := (true, "4bb5b5e037710e2d58da1133b0cf26100f3218a8e64dbbf302e2c9d61b1505b8"), looks := true }, kinds := [], alts := [], laidByText := true, laidKinds := [.data, .data, .data, .data, .sentinel, .sentinel, .pinned], laidTests := true, laidLooks := .later }
def ValueApartCardSaid : Prop := Claim7.holds Tryd.pinned (.plain (OpenSpec.ofChange valueApartSpec)) valueApartCard

/-- THE TIED CARD OF 'covenantlaw01.ValueNames'. -/
def valueNamesCard : Claim7 := { stood := { row := valueNamesRow, standIns := [], harness := (true, "4bb5b5e037710e2d58da1133b0cf26100f3218a8e64dbbf302e2c9d61b1505b8"), looks := true }, kinds := [], alts := [], laidByText := true, laidKinds := [.data, .data, .data, .data, .sentinel, .sentinel, .pinned], laidTests := true, laidLooks := .later }
def ValueNamesCardSaid : Prop := Claim7.holds Tryd.pinned (.plain (OpenSpec.ofChange valueNamesSpec)) valueNamesCard

/-- THE TIED CARD OF 'covenantlaw01.ValueFits'. -/
def valueFitsCard : Claim7 := { stood := { row := valueFitsRow, standIns := [], harness := (true, "4bb5b5e037710e2d58da1133b0cf26100f3218a8e64dbbf302e2c9d61b1505b8"), looks := true }, kinds := [], alts := [], laidByText := true, laidKinds := [.data, .data, .data, .data, .sentinel, .sentinel, .pinned], laidTests := true, laidLooks := .later }
def ValueFitsCardSaid : Prop := Claim7.holds Tryd.pinned (.plain (OpenSpec.ofChange valueFitsSpec)) valueFitsCard

/-- THE TIED CARD OF 'covenantlaw05.RowParses'. -/
def rowParsesCard : Claim7 := { stood := { row := rowParsesRow, standIns := [], harness := (true, "4bb5b5e037710e2d58da1133b0cf26100f3218a8e64dbbf302e2c9d61b1505b8"), looks := true }, kinds := [], alts := [], laidByText := true, laidKinds := [.data, .data, .data, .data, .sentinel, .sentinel, .pinned], laidTests := true, laidLooks := .later }
def RowParsesCardSaid : Prop := Claim7.holds Tryd.pinned (.plain (OpenSpec.ofChange rowParsesSpec)) rowParsesCard

/-- THE TIED CARD OF 'covenantlaw05.RowBack'. -/
def rowBackCard : Claim7 := { stood := { row := rowBackRow, standIns := [], harness := (true, "4bb5b5e037710e2d58da1133b0cf26100f3218a8e64dbbf302e2c9d61b1505b8"), looks := true }, kinds := [], alts := [], laidByText := true, laidKinds := [.data, .data, .data, .data, .sentinel, .sentinel, .pinned], laidTests := true, laidLooks := .later }
def RowBackCardSaid : Prop := Claim7.holds Tryd.pinned (.plain (OpenSpec.ofChange rowBackSpec)) rowBackCard

/-- THE TIED CARD OF 'covenantlaw05.RowOrder'. -/
def rowOrderCard : Claim7 := { stood := { row := rowOrderRow, standIns := [], harness := (true, "4bb5b5e037710e2d58da1133b0cf26100f3218a8e64dbbf302e2c9d61b1505b8"), looks := true }, kinds := [], alts := [], laidByText := true, laidKinds := [.data, .data, .data, .data, .sentinel, .sentinel, .pinned], laidTests := true, laidLooks := .later }
def RowOrderCardSaid : Prop := Claim7.holds Tryd.pinned (.plain (OpenSpec.ofChange rowOrderSpec)) rowOrderCard

/-- THE TIED CARD OF 'covenantlaw05.RowBehind'. -/
def rowBehindCard : Claim7 := { stood := { row := rowBehindRow, standIns := [], harness := (true, "4bb5b5e037710e2d58da1133b0cf26100f3218a8e64dbbf302e2c9d61b1505b8"), looks := true }, kinds := [], alts := [], laidByText := true, laidKinds := [.data, .data, .data, .data, .sentinel, .sentinel, .pinned], laidTests := true, laidLooks := .later }
def RowBehindCardSaid : Prop := Claim7.holds Tryd.pinned (.plain (OpenSpec.ofChange rowBehindSpec)) rowBehindCard

/-- THE TIED CARD OF 'covenantlaw05.RowApart'. -/
def rowApartCard : Claim7 := { stood := { row := rowApartRow, standIns := [], harness := (true, "4bb5b5e037710e2d58da1133b0cf26100f3218a8e64dbbf302e2c9d61b1505b8"), looks := true }, kinds := [], alts := [], laidByText := true, laidKinds := [.data, .data, .data, .data, .sentinel, .sentinel, .pinned], laidTests := true, laidLooks := .later }
def RowApartCardSaid : Prop := Claim7.holds Tryd.pinned (.plain (OpenSpec.ofChange rowApartSpec)) rowApartCard

/-- THE TIED CARD OF 'covenantlaw05.RowNames'. -/
def rowNamesCard : Claim7 := { stood := { row := rowNamesRow, standIns := [], harness := (true, "4bb5b5e037710e2d58da1133b0cf26100f3218a8e64dbbf302e2c9d61b1505b8"), looks := true }, kinds := [], alts := [], laidByText := true, laidKinds := [.data, .data, .data, .data, .sentinel, .sentinel, .pinned], laidTests := true, laidLooks := .later }
def RowNamesCardSaid : Prop := Claim7.holds Tryd.pinned (.plain (OpenSpec.ofChange rowNamesSpec)) rowNamesCard

/-- THE TIED CARD OF 'covenantlaw05.RowFits'. -/
def rowFitsCard : Claim7 := { stood := { row := rowFitsRow, standIns := [], harness := (true, "4bb5b5e037710e2d58da1133b0cf26100f3218a8e64dbbf302e2c9d61b1505b8"), looks := true }, kinds := [], alts := [], laidByText := true, laidKinds := [.data, .data, .data, .data, .sentinel, .sentinel, .pinned], laidTests := true, laidLooks := .later }
def RowFitsCardSaid : Prop := Claim7.holds Tryd.pinned (.plain (OpenSpec.ofChange rowFitsSpec)) rowFitsCard

/-- THE SECOND FORM's CARD OF 'covenantlaw01.ValueTells'. -/
def valueTellsUptoCard : Claim7 := { stood := { row := valueTellsUptoRow, standIns := [], harness := (true, "4bb5b5e037710e2d58da1133b0cf26100f3218a8e64dbbf302e2c9d61b1505b8"), looks := true }, kinds := [], alts := [], laidByText := true, laidKinds := [.data, .data, .data, .data, .pinned], laidTests := true, laidLooks := .later }
def ValueTellsUptoCardSaid : Prop := Claim7.holds Tryd.pinned (.plain (OpenSpec.upto valueTellsSpec)) valueTellsUptoCard

/-- THE SECOND FORM's CARD OF 'covenantlaw05.RowTells'. -/
def rowTellsUptoCard : Claim7 := { stood := { row := rowTellsUptoRow, standIns := [], harness := (true, "4bb5b5e037710e2d58da1133b0cf26100f3218a8e64dbbf302e2c9d61b1505b8"), looks := true }, kinds := [], alts := [], laidByText := true, laidKinds := [.data, .data, .data, .data, .pinned], laidTests := true, laidLooks := .later }
def RowTellsUptoCardSaid : Prop := Claim7.holds Tryd.pinned (.plain (OpenSpec.upto rowTellsSpec)) rowTellsUptoCard

/-- THE SECOND FORM's CARD OF 'covenantlaw06.KeyTells'. -/
def keyTellsUptoCard : Claim7 := { stood := { row := keyTellsUptoRow, standIns := [], harness := (true, "4bb5b5e037710e2d58da1133b0cf26100f3218a8e64dbbf302e2c9d61b1505b8"), looks := true }, kinds := [], alts := [], laidByText := true, laidKinds := [.data, .data, .data, .data, .pinned], laidTests := true, laidLooks := .later }
def KeyTellsUptoCardSaid : Prop := Claim7.holds Tryd.pinned (.plain (OpenSpec.upto keyTellsSpec)) keyTellsUptoCard

/-- THE SECOND FORM's CARD OF 'covenantlaw06.KeySame'. -/
def keySameUptoCard : Claim7 := { stood := { row := keySameUptoRow, standIns := [], harness := (true, "4bb5b5e037710e2d58da1133b0cf26100f3218a8e64dbbf302e2c9d61b1505b8"), looks := true }, kinds := [], alts := [], laidByText := true, laidKinds := [.data, .data, .data, .data, .pinned], laidTests := true, laidLooks := .later }
def KeySameUptoCardSaid : Prop := Claim7.holds Tryd.pinned (.plain (OpenSpec.upto keySameSpec)) keySameUptoCard

/-- THE SECOND FORM's CARD OF 'covenantlaw01.ValueParses'. -/
def valueParsesUptoCard : Claim7 := { stood := { row := valueParsesUptoRow, standIns := [], harness := (true, "4bb5b5e037710e2d58da1133b0cf26100f3218a8e64dbbf302e2c9d61b1505b8"), looks := true }, kinds := [], alts := [], laidByText := true, laidKinds := [.data, .data, .data, .data, .sentinel, .sentinel, .pinned], laidTests := true, laidLooks := .later }
def ValueParsesUptoCardSaid : Prop := Claim7.holds Tryd.pinned (.plain (OpenSpec.upto valueParsesSpec)) valueParsesUptoCard

/-- THE SECOND FORM's CARD OF 'covenantlaw01.ValueBack'. -/
def valueBackUptoCard : Claim7 := { stood := { row := valueBackUptoRow, standIns := [], harness := (true, "4bb5b5e037710e2d58da1133b0cf26100f3218a8e64dbbf302e2c9d61b1505b8"), looks := true }, kinds := [], alts := [], laidByText := true, laidKinds := [.data, .data, .data, .data, .sentinel, .sentinel, .pinned], laidTests := true, laidLooks := .later }
def ValueBackUptoCardSaid : Prop := Claim7.holds Tryd.pinned (.plain (OpenSpec.upto valueBackSpec)) valueBackUptoCard

/-- THE SECOND FORM's CARD OF 'covenantlaw01.ValueOrder'. -/
def valueOrderUptoCard : Claim7 := { stood := { row := valueOrderUptoRow, standIns := [], harness := (true, "4bb5b5e037710e2d58da1133b0cf26100f3218a8e64dbbf302e2c9d61b1505b8"), looks := true }, kinds := [], alts := [], laidByText := true, laidKinds := [.data, .data, .data, .data, .sentinel, .sentinel, .pinned], laidTests := true, laidLooks := .later }
def ValueOrderUptoCardSaid : Prop := Claim7.holds Tryd.pinned (.plain (OpenSpec.upto valueOrderSpec)) valueOrderUptoCard

/-- THE SECOND FORM's CARD OF 'covenantlaw01.ValueKinds'. -/
def valueKindsUptoCard : Claim7 := { stood := { row := valueKindsUptoRow, standIns := [], harness := (true, "4bb5b5e037710e2d58da1133b0cf26100f3218a8e64dbbf302e2c9d61b1505b8"), looks := true }, kinds := [], alts := [], laidByText := true, laidKinds := [.data, .data, .data, .data, .sentinel, .sentinel, .pinned], laidTests := true, laidLooks := .later }
def ValueKindsUptoCardSaid : Prop := Claim7.holds Tryd.pinned (.plain (OpenSpec.upto valueKindsSpec)) valueKindsUptoCard

/-- THE SECOND FORM's CARD OF 'covenantlaw01.ValueApart'. -/
def valueApartUptoCard : Claim7 := { stood := { row := valueApartUptoRow, standIns := [], harness := (true, "4bb5b5e037710e2d58da1133b0cf26100f3218a8e64dbbf302e2c9d61b1505b8"), looks := true }, kinds := [], alts := [], laidByText := true, laidKinds := [.data, .data, .data, .data, .sentinel, .sentinel, .pinned], laidTests := true, laidLooks := .later }
def ValueApartUptoCardSaid : Prop := Claim7.holds Tryd.pinned (.plain (OpenSpec.upto valueApartSpec)) valueApartUptoCard

/-- THE SECOND FORM's CARD OF 'covenantlaw01.ValueNames'. -/
def valueNamesUptoCard : Claim7 := { stood := { row := valueNamesUptoRow, standIns := [], harness := (true, "4bb5b5e037710e2d58da1133b0cf26100f3218a8e64dbbf302e2c9d61b1505b8"), looks := true }, kinds := [], alts := [], laidByText := true, laidKinds := [.data, .data, .data, .data, .sentinel, .sentinel, .pinned], laidTests := true, laidLooks := .later }
def ValueNamesUptoCardSaid : Prop := Claim7.holds Tryd.pinned (.plain (OpenSpec.upto valueNamesSpec)) valueNamesUptoCard

/-- THE SECOND FORM's CARD OF 'covenantlaw01.ValueFits'. -/
def valueFitsUptoCard : Claim7 := { stood := { row := valueFitsUptoRow, standIns := [], harness := (true, "4bb5b5e037710e2d58da1133b0cf26100f3218a8e64dbbf302e2c9d61b1505b8"), looks := true }, kinds := [], alts := [], laidByText := true, laidKinds := [.data, .data, .data, .data, .sentinel, .sentinel, .pinned], laidTests := true, laidLooks := .later }
def ValueFitsUptoCardSaid : Prop := Claim7.holds Tryd.pinned (.plain (OpenSpec.upto valueFitsSpec)) valueFitsUptoCard

/-- THE SECOND FORM's CARD OF 'covenantlaw05.RowParses'. -/
def rowParsesUptoCard : Claim7 := { stood := { row := rowParsesUptoRow, standIns := [], harness := (true, "4bb5b5e037710e2d58da1133b0cf26100f3218a8e64dbbf302e2c9d61b1505b8"), looks := true }, kinds := [], alts := [], laidByText := true, laidKinds := [.data, .data, .data, .data, .sentinel, .sentinel, .pinned], laidTests := true, laidLooks := .later }
def RowParsesUptoCardSaid : Prop := Claim7.holds Tryd.pinned (.plain (OpenSpec.upto rowParsesSpec)) rowParsesUptoCard

/-- THE SECOND FORM's CARD OF 'covenantlaw05.RowBack'. -/
def rowBackUptoCard : Claim7 := { stood := { row := rowBackUptoRow, standIns := [], harness := (true, "4bb5b5e037710e2d58da1133b0cf26100f3218a8e64dbbf302e2c9d61b1505b8"), looks := true }, kinds := [], alts := [], laidByText := true, laidKinds := [.data, .data, .data, .data, .sentinel, .sentinel, .pinned], laidTests := true, laidLooks := .later }
def RowBackUptoCardSaid : Prop := Claim7.holds Tryd.pinned (.plain (OpenSpec.upto rowBackSpec)) rowBackUptoCard

/-- THE SECOND FORM's CARD OF 'covenantlaw05.RowOrder'. -/
def rowOrderUptoCard : Claim7 := { stood := { row := rowOrderUptoRow, standIns := [], harness := (true, "4bb5b5e037710e2d58da1133b0cf26100f3218a8e64dbbf302e2c9d61b1505b8"), looks := true }, kinds := [], alts := [], laidByText := true, laidKinds := [.data, .data, .data, .data, .sentinel, .sentinel, .pinned], laidTests := true, laidLooks := .later }
def RowOrderUptoCardSaid : Prop := Claim7.holds Tryd.pinned (.plain (OpenSpec.upto rowOrderSpec)) rowOrderUptoCard

/-- THE SECOND FORM's CARD OF 'covenantlaw05.RowBehind'. -/
def rowBehindUptoCard : Claim7 := { stood := { row := rowBehindUptoRow, standIns := [], harness := (true, "4bb5b5e037710e2d58da1133b0cf26100f3218a8e64dbbf302e2c9d61b1505b8"), looks := true }, kinds := [], alts := [], laidByText := true, laidKinds := [.data, .data, .data, .data, .sentinel, .sentinel, .pinned], laidTests := true, laidLooks := .later }
def RowBehindUptoCardSaid : Prop := Claim7.holds Tryd.pinned (.plain (OpenSpec.upto rowBehindSpec)) rowBehindUptoCard

/-- THE SECOND FORM's CARD OF 'covenantlaw05.RowApart'. -/
def rowApartUptoCard : Claim7 := { stood := { row := rowApartUptoRow, standIns := [], harness := (true, "4bb5b5e037710e2d58da1133b0cf26100f3218a8e64dbbf302e2c9d61b1505b8"), looks := true }, kinds := [], alts := [], laidByText := true, laidKinds := [.data, .data, .data, .data, .sentinel, .sentinel, .pinned], laidTests := true, laidLooks := .later }
def RowApartUptoCardSaid : Prop := Claim7.holds Tryd.pinned (.plain (OpenSpec.upto rowApartSpec)) rowApartUptoCard

/-- THE SECOND FORM's CARD OF 'covenantlaw05.RowNames'. -/
def rowNamesUptoCard : Claim7 := { stood := { row := rowNamesUptoRow, standIns := [], harness := (true, "4bb5b5e037710e2d58da1133b0cf26100f3218a8e64dbbf302e2c9d61b1505b8"), looks := true }, kinds := [], alts := [], laidByText := true, laidKinds := [.data, .data, .data, .data, .sentinel, .sentinel, .pinned], laidTests := true, laidLooks := .later }
def RowNamesUptoCardSaid : Prop := Claim7.holds Tryd.pinned (.plain (OpenSpec.upto rowNamesSpec)) rowNamesUptoCard

/-- THE SECOND FORM's CARD OF 'covenantlaw05.RowFits'. -/
def rowFitsUptoCard : Claim7 := { stood := { row := rowFitsUptoRow, standIns := [], harness := (true, "4bb5b5e037710e2d58da1133b0cf26100f3218a8e64dbbf302e2c9d61b1505b8"), looks := true }, kinds := [], alts := [], laidByText := true, laidKinds := [.data, .data, .data, .data, .sentinel, .sentinel, .pinned], laidTests := true, laidLooks := .later }
def RowFitsUptoCardSaid : Prop := Claim7.holds Tryd.pinned (.plain (OpenSpec.upto rowFitsSpec)) rowFitsUptoCard
end Rows
end Go.Proofs.YtddmllocjocipaaDoor
