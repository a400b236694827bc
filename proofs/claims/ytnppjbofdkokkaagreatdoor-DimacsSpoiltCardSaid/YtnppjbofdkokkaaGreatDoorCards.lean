/-
  DERIVED. GIVEN WITH THE SEED: THE CARDS: each row of YtnppjbofdkokkaaGreatDoorRows.lean that lists a variable, with what it lists TIED to the program's text (the seventh form; the later family's looks); each row that meets fmt, with fmt's text TOLD by the authors' own Lean function (tested against real Go, not proved from fmt's source: count such statements apart). THE CARD IS WHAT COUNTS. Prove the row's statement (the work); the ties are given (YtnppjbofdkokkaaGreatDoorTie.lean); close each card by the builder's one call (the guide's Derived/Test/ToyasCard.lean, 'card_holds'). Laid BY PROGRAM, IN A SANDBOX (cutbox-door.mjs). By AI agents, Wed Nov 11 2026. No macro, syntax, notation, axiom, sorry.
-/
import Derived.Test.YtnppjbofdkokkaaGreatDoorRows
import GoSem.ClaimSeven
namespace Go.Proofs.YtnppjbofdkokkaaGreatDoor
namespace Rows

/-- THE TIED CARD OF 'acequialaw27.DimacsBack'. -/
def dimacsBackCard : Claim7 := { stood := { row := dimacsBackRow, standIns := [], harness := (true, "db1a12709f6db80646dfb898193eb2153673c0ca52aa4fc7f223a83995abd7cc"), looks := true }, kinds := [], alts := [], laidByText := true, laidKinds := [.data, .data, .data, .data, .sentinel, .sentinel, .sentinel, .pinned], laidTests := true, laidLooks := .later }
def DimacsBackCardSaid : Prop := Claim7.holds Tryz.pinned (.plain (OpenSpec.ofChange dimacsBackSpec)) dimacsBackCard

/-- THE TIED CARD OF 'acequialaw28.SayBlank'. -/
def sayBlankCard : Claim7 := { stood := { row := sayBlankRow, standIns := [], harness := (true, "db1a12709f6db80646dfb898193eb2153673c0ca52aa4fc7f223a83995abd7cc"), looks := true }, kinds := [], alts := [], laidByText := true, laidKinds := [.data, .data, .data, .data, .sentinel, .sentinel, .sentinel, .pinned], laidTests := true, laidLooks := .later }
def SayBlankCardSaid : Prop := Claim7.holds Tryz.pinned (.plain (OpenSpec.ofChange sayBlankSpec)) sayBlankCard

/-- THE TIED CARD OF 'acequialaw28.SaySpoilt'. -/
def saySpoiltCard : Claim7 := { stood := { row := saySpoiltRow, standIns := [], harness := (true, "db1a12709f6db80646dfb898193eb2153673c0ca52aa4fc7f223a83995abd7cc"), looks := true }, kinds := [], alts := [], laidByText := true, laidKinds := [.data, .data, .data, .data, .sentinel, .sentinel, .sentinel, .pinned], laidTests := true, laidLooks := .later }
def SaySpoiltCardSaid : Prop := Claim7.holds Tryz.pinned (.plain (OpenSpec.ofChange saySpoiltSpec)) saySpoiltCard

/-- THE TIED CARD OF 'acequialaw27.DimacsNumbers'. -/
def dimacsNumbersCard : Claim7 := { stood := { row := dimacsNumbersRow, standIns := [], harness := (true, "db1a12709f6db80646dfb898193eb2153673c0ca52aa4fc7f223a83995abd7cc"), looks := true }, kinds := [], alts := [], laidByText := true, laidKinds := [.data, .data, .data, .data, .sentinel, .sentinel, .pinned], laidTests := true, laidLooks := .later }
def DimacsNumbersCardSaid : Prop := Claim7.holds Tryz.pinned (.plain (OpenSpec.ofChange dimacsNumbersSpec)) dimacsNumbersCard

/-- THE TIED CARD OF 'acequialaw27.DimacsBlank'. -/
def dimacsBlankCard : Claim7 := { stood := { row := dimacsBlankRow, standIns := [], harness := (true, "db1a12709f6db80646dfb898193eb2153673c0ca52aa4fc7f223a83995abd7cc"), looks := true }, kinds := [], alts := [], laidByText := true, laidKinds := [.data, .data, .data, .data, .sentinel, .sentinel, .sentinel, .pinned], laidTests := true, laidLooks := .later }
def DimacsBlankCardSaid : Prop := Claim7.holds Tryz.pinned (.plain (OpenSpec.ofChange dimacsBlankSpec)) dimacsBlankCard

/-- THE TIED CARD OF 'acequialaw27.DimacsSpoilt'. -/
def dimacsSpoiltCard : Claim7 := { stood := { row := dimacsSpoiltRow, standIns := [], harness := (true, "db1a12709f6db80646dfb898193eb2153673c0ca52aa4fc7f223a83995abd7cc"), looks := true }, kinds := [], alts := [], laidByText := true, laidKinds := [.data, .data, .data, .data, .sentinel, .sentinel, .sentinel, .pinned, .pinned], laidTests := true, laidLooks := .later }
def DimacsSpoiltCardSaid : Prop := Claim7.holds Tryz.pinned (.plain (OpenSpec.ofChange dimacsSpoiltSpec)) dimacsSpoiltCard

/-- THE SECOND FORM's CARD OF 'acequialaw27.DimacsBack'. -/
def dimacsBackUptoCard : Claim7 := { stood := { row := dimacsBackUptoRow, standIns := [], harness := (true, "db1a12709f6db80646dfb898193eb2153673c0ca52aa4fc7f223a83995abd7cc"), looks := true }, kinds := [], alts := [], laidByText := true, laidKinds := [.data, .data, .data, .data, .sentinel, .sentinel, .sentinel, .pinned], laidTests := true, laidLooks := .later }
def DimacsBackUptoCardSaid : Prop := Claim7.holds Tryz.pinned (.plain (OpenSpec.upto dimacsBackSpec)) dimacsBackUptoCard

/-- THE SECOND FORM's CARD OF 'acequialaw28.SayBlank'. -/
def sayBlankUptoCard : Claim7 := { stood := { row := sayBlankUptoRow, standIns := [], harness := (true, "db1a12709f6db80646dfb898193eb2153673c0ca52aa4fc7f223a83995abd7cc"), looks := true }, kinds := [], alts := [], laidByText := true, laidKinds := [.data, .data, .data, .data, .sentinel, .sentinel, .sentinel, .pinned], laidTests := true, laidLooks := .later }
def SayBlankUptoCardSaid : Prop := Claim7.holds Tryz.pinned (.plain (OpenSpec.upto sayBlankSpec)) sayBlankUptoCard

/-- THE SECOND FORM's CARD OF 'acequialaw28.SaySpoilt'. -/
def saySpoiltUptoCard : Claim7 := { stood := { row := saySpoiltUptoRow, standIns := [], harness := (true, "db1a12709f6db80646dfb898193eb2153673c0ca52aa4fc7f223a83995abd7cc"), looks := true }, kinds := [], alts := [], laidByText := true, laidKinds := [.data, .data, .data, .data, .sentinel, .sentinel, .sentinel, .pinned], laidTests := true, laidLooks := .later }
def SaySpoiltUptoCardSaid : Prop := Claim7.holds Tryz.pinned (.plain (OpenSpec.upto saySpoiltSpec)) saySpoiltUptoCard

/-- THE SECOND FORM's CARD OF 'acequialaw27.DimacsNumbers'. -/
def dimacsNumbersUptoCard : Claim7 := { stood := { row := dimacsNumbersUptoRow, standIns := [], harness := (true, "db1a12709f6db80646dfb898193eb2153673c0ca52aa4fc7f223a83995abd7cc"), looks := true }, kinds := [], alts := [], laidByText := true, laidKinds := [.data, .data, .data, .data, .sentinel, .sentinel, .pinned], laidTests := true, laidLooks := .later }
def DimacsNumbersUptoCardSaid : Prop := Claim7.holds Tryz.pinned (.plain (OpenSpec.upto dimacsNumbersSpec)) dimacsNumbersUptoCard

/-- THE SECOND FORM's CARD OF 'acequialaw27.DimacsBlank'. -/
def dimacsBlankUptoCard : Claim7 := { stood := { row := dimacsBlankUptoRow, standIns := [], harness := (true, "db1a12709f6db80646dfb898193eb2153673c0ca52aa4fc7f223a83995abd7cc"), looks := true }, kinds := [], alts := [], laidByText := true, laidKinds := [.data, .data, .data, .data, .sentinel, .sentinel, .sentinel, .pinned], laidTests := true, laidLooks := .later }
def DimacsBlankUptoCardSaid : Prop := Claim7.holds Tryz.pinned (.plain (OpenSpec.upto dimacsBlankSpec)) dimacsBlankUptoCard

/-- THE SECOND FORM's CARD OF 'acequialaw27.DimacsSpoilt'. -/
def dimacsSpoiltUptoCard : Claim7 := { stood := { row := dimacsSpoiltUptoRow, standIns := [], harness := (true, "db1a12709f6db80646dfb898193eb2153673c0ca52aa4fc7f223a83995abd7cc"), looks := true }, kinds := [], alts := [], laidByText := true, laidKinds := [.data, .data, .data, .data, .sentinel, .sentinel, .sentinel, .pinned, .pinned], laidTests := true, laidLooks := .later }
def DimacsSpoiltUptoCardSaid : Prop := Claim7.holds Tryz.pinned (.plain (OpenSpec.upto dimacsSpoiltSpec)) dimacsSpoiltUptoCard
end Rows
end Go.Proofs.YtnppjbofdkokkaaGreatDoor
