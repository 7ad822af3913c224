/-
  DERIVED. GIVEN WITH THE SEED: THE CARDS: each row of YtfpjfndelkgciaaDoorRows.lean that lists a variable, with what it lists TIED to the program's text (the seventh form; the later family's looks); each row that meets fmt, with fmt's text TOLD by the authors' own Lean function (tested against real Go, not proved from fmt's source: count such statements apart). THE CARD IS WHAT COUNTS. Prove the row's statement (the work); the ties are given (YtfpjfndelkgciaaDoorTie.lean); close each card by the builder's one call (the guide's Derived/Test/ToyasCard.lean, 'card_holds'). Laid BY PROGRAM, IN A SANDBOX (cutbox-door.mjs). By AI agents, Wed Nov 11 2026. No macro, syntax, notation, axiom, sorry.
-/
import Derived.Test.YtfpjfndelkgciaaDoorRows
import GoSem.ClaimSeven
namespace Go.Proofs.YtfpjfndelkgciaaDoor
namespace Rows

/-- THE TIED CARD OF 'boscagelaw30.CallMays'. -/
def callMaysCard : Claim7 := { stood := { row := callMaysRow, standIns := [], harness := (true, "3e8902c6596b3d5ee5fe5b24d0fe4ec5214e119b0b21d89cf25324ee5c01b37a"), looks := false }, kinds := [], alts := [], laidByText := true, laidKinds := [.data], laidTests := true, laidLooks := .later }
def CallMaysCardSaid : Prop := Claim7.holds Tryd.pinned (.plain (OpenSpec.ofChange callMaysSpec)) callMaysCard

/-- THE TIED CARD OF 'boscagelaw30.CallCells'. -/
def callCellsCard : Claim7 := { stood := { row := callCellsRow, standIns := [], harness := (true, "3e8902c6596b3d5ee5fe5b24d0fe4ec5214e119b0b21d89cf25324ee5c01b37a"), looks := false }, kinds := [], alts := [], laidByText := true, laidKinds := [.data], laidTests := true, laidLooks := .later }
def CallCellsCardSaid : Prop := Claim7.holds Tryd.pinned (.plain (OpenSpec.ofChange callCellsSpec)) callCellsCard

/-- THE TIED CARD OF 'boscagelaw30.CallApart'. -/
def callApartCard : Claim7 := { stood := { row := callApartRow, standIns := [], harness := (true, "3e8902c6596b3d5ee5fe5b24d0fe4ec5214e119b0b21d89cf25324ee5c01b37a"), looks := false }, kinds := [], alts := [], laidByText := true, laidKinds := [.data], laidTests := true, laidLooks := .later }
def CallApartCardSaid : Prop := Claim7.holds Tryd.pinned (.plain (OpenSpec.ofChange callApartSpec)) callApartCard

/-- THE TIED CARD OF 'boscagelaw42.ScriptDecodes'. -/
def scriptDecodesCard : Claim7 := { stood := { row := scriptDecodesRow, standIns := [], harness := (true, "3e8902c6596b3d5ee5fe5b24d0fe4ec5214e119b0b21d89cf25324ee5c01b37a"), looks := false }, kinds := [], alts := [], laidByText := true, laidKinds := [.data], laidTests := true, laidLooks := .later }
def ScriptDecodesCardSaid : Prop := Claim7.holds Tryd.pinned (.plain (OpenSpec.ofChange scriptDecodesSpec)) scriptDecodesCard

/-- THE TIED CARD OF 'boscagelaw42.ScriptBack'. -/
def scriptBackCard : Claim7 := { stood := { row := scriptBackRow, standIns := [], harness := (true, "3e8902c6596b3d5ee5fe5b24d0fe4ec5214e119b0b21d89cf25324ee5c01b37a"), looks := false }, kinds := [], alts := [], laidByText := true, laidKinds := [.data], laidTests := true, laidLooks := .later }
def ScriptBackCardSaid : Prop := Claim7.holds Tryd.pinned (.plain (OpenSpec.ofChange scriptBackSpec)) scriptBackCard

/-- THE TIED CARD OF 'boscagelaw42.ScriptEncodes'. -/
def scriptEncodesCard : Claim7 := { stood := { row := scriptEncodesRow, standIns := [], harness := (true, "3e8902c6596b3d5ee5fe5b24d0fe4ec5214e119b0b21d89cf25324ee5c01b37a"), looks := false }, kinds := [], alts := [], laidByText := true, laidKinds := [.data], laidTests := true, laidLooks := .later }
def ScriptEncodesCardSaid : Prop := Claim7.holds Tryd.pinned (.plain (OpenSpec.ofChange scriptEncodesSpec)) scriptEncodesCard

/-- THE SECOND FORM's CARD OF 'boscagelaw30.CallMays'. -/
def callMaysUptoCard : Claim7 := { stood := { row := callMaysUptoRow, standIns := [], harness := (true, "3e8902c6596b3d5ee5fe5b24d0fe4ec5214e119b0b21d89cf25324ee5c01b37a"), looks := false }, kinds := [], alts := [], laidByText := true, laidKinds := [.data], laidTests := true, laidLooks := .later }
def CallMaysUptoCardSaid : Prop := Claim7.holds Tryd.pinned (.plain (OpenSpec.upto callMaysSpec)) callMaysUptoCard

/-- THE SECOND FORM's CARD OF 'boscagelaw30.CallCells'. -/
def callCellsUptoCard : Claim7 := { stood := { row := callCellsUptoRow, standIns := [], harness := (true, "3e8902c6596b3d5ee5fe5b24d0fe4ec5214e119b0b21d89cf25324ee5c01b37a"), looks := false }, kinds := [], alts := [], laidByText := true, laidKinds := [.data], laidTests := true, laidLooks := .later }
def CallCellsUptoCardSaid : Prop := Claim7.holds Tryd.pinned (.plain (OpenSpec.upto callCellsSpec)) callCellsUptoCard

/-- THE SECOND FORM's CARD OF 'boscagelaw30.CallApart'. -/
def callApartUptoCard : Claim7 := { stood := { row := callApartUptoRow, standIns := [], harness := (true, "3e8902c6596b3d5ee5fe5b24d0fe4ec5214e119b0b21d89cf25324ee5c01b37a"), looks := false }, kinds := [], alts := [], laidByText := true, laidKinds := [.data], laidTests := true, laidLooks := .later }
def CallApartUptoCardSaid : Prop := Claim7.holds Tryd.pinned (.plain (OpenSpec.upto callApartSpec)) callApartUptoCard

/-- THE SECOND FORM's CARD OF 'boscagelaw42.ScriptDecodes'. -/
def scriptDecodesUptoCard : Claim7 := { stood := { row := scriptDecodesUptoRow, standIns := [], harness := (true, "3e8902c6596b3d5ee5fe5b24d0fe4ec5214e119b0b21d89cf25324ee5c01b37a"), looks := false }, kinds := [], alts := [], laidByText := true, laidKinds := [.data], laidTests := true, laidLooks := .later }
def ScriptDecodesUptoCardSaid : Prop := Claim7.holds Tryd.pinned (.plain (OpenSpec.upto scriptDecodesSpec)) scriptDecodesUptoCard

/-- THE SECOND FORM's CARD OF 'boscagelaw42.ScriptBack'. -/
def scriptBackUptoCard : Claim7 := { stood := { row := scriptBackUptoRow, standIns := [], harness := (true, "3e8902c6596b3d5ee5fe5b24d0fe4ec5214e119b0b21d89cf25324ee5c01b37a"), looks := false }, kinds := [], alts := [], laidByText := true, laidKinds := [.data], laidTests := true, laidLooks := .later }
def ScriptBackUptoCardSaid : Prop := Claim7.holds Tryd.pinned (.plain (OpenSpec.upto scriptBackSpec)) scriptBackUptoCard

/-- THE SECOND FORM's CARD OF 'boscagelaw42.ScriptEncodes'. -/
def scriptEncodesUptoCard : Claim7 := { stood := { row := scriptEncodesUptoRow, standIns := [], harness := (true, "3e8902c6596b3d5ee5fe5b24d0fe4ec5214e119b0b21d89cf25324ee5c01b37a"), looks := false }, kinds := [], alts := [], laidByText := true, laidKinds := [.data], laidTests := true, laidLooks := .later }
def ScriptEncodesUptoCardSaid : Prop := Claim7.holds Tryd.pinned (.plain (OpenSpec.upto scriptEncodesSpec)) scriptEncodesUptoCard
end Rows
end Go.Proofs.YtfpjfndelkgciaaDoor
