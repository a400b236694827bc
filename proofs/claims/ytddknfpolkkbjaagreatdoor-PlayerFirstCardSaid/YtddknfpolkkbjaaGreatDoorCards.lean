/-
  DERIVED. GIVEN WITH THE SEED: THE CARDS: each row of YtddknfpolkkbjaaGreatDoorRows.lean that lists a variable, with what it lists TIED to the program's text (the seventh form; the later family's looks); each row that meets fmt, with fmt's text TOLD by the authors' own Lean function (tested against real Go, not proved from fmt's source: count such statements apart). THE CARD IS WHAT COUNTS. Prove the row's statement (the work); the ties are given (YtddknfpolkkbjaaGreatDoorTie.lean); close each card by the builder's one call (the guide's Derived/Test/ToyasCard.lean, 'card_holds'). Laid BY PROGRAM, IN A SANDBOX (cutbox-door.mjs). By AI agents, Wed Nov 11 2026. No macro, syntax, notation, axiom, sorry.
-/
import Derived.Test.YtddknfpolkkbjaaGreatDoorRows
import GoSem.ClaimSeven
namespace Go.Proofs.YtddknfpolkkbjaaGreatDoor
namespace Rows

/-- THE TIED CARD OF 'acequialaw29.PlayerSpoilt'. -/
def playerSpoiltCard : Claim7 := { stood := { row := playerSpoiltRow, standIns := [], harness := (true, "fd19057fe9e4215cef46eeb5084934125b9f08fb7c6838f8aac3e9dbf6d2ba38"), looks := true }, kinds := [], alts := [], laidByText := true, laidKinds := [.data, .data, .data, .data, .sentinel, .sentinel, .sentinel, .pinned], laidTests := true, laidLooks := .later }
def PlayerSpoiltCardSaid : Prop := Claim7.holds Tryz.pinned (.plain (OpenSpec.ofChange playerSpoiltSpec)) playerSpoiltCard

/-- THE TIED CARD OF 'acequialaw29.PlayerFirst'. -/
def playerFirstCard : Claim7 := { stood := { row := playerFirstRow, standIns := [], harness := (true, "fd19057fe9e4215cef46eeb5084934125b9f08fb7c6838f8aac3e9dbf6d2ba38"), looks := true }, kinds := [], alts := [], laidByText := true, laidKinds := [.data, .data, .data, .data, .sentinel, .sentinel, .sentinel, .pinned], laidTests := true, laidLooks := .later }
def PlayerFirstCardSaid : Prop := Claim7.holds Tryz.pinned (.plain (OpenSpec.ofChange playerFirstSpec)) playerFirstCard

/-- THE TIED CARD OF 'acequialaw29.PlayerPlans'. -/
def playerPlansCard : Claim7 := { stood := { row := playerPlansRow, standIns := [], harness := (true, "fd19057fe9e4215cef46eeb5084934125b9f08fb7c6838f8aac3e9dbf6d2ba38"), looks := true }, kinds := [], alts := [], laidByText := true, laidKinds := [.data, .data, .data, .data, .sentinel, .sentinel, .sentinel, .pinned], laidTests := true, laidLooks := .later }
def PlayerPlansCardSaid : Prop := Claim7.holds Tryz.pinned (.plain (OpenSpec.ofChange playerPlansSpec)) playerPlansCard

/-- THE SECOND FORM's CARD OF 'acequialaw29.PlayerSpoilt'. -/
def playerSpoiltUptoCard : Claim7 := { stood := { row := playerSpoiltUptoRow, standIns := [], harness := (true, "fd19057fe9e4215cef46eeb5084934125b9f08fb7c6838f8aac3e9dbf6d2ba38"), looks := true }, kinds := [], alts := [], laidByText := true, laidKinds := [.data, .data, .data, .data, .sentinel, .sentinel, .sentinel, .pinned], laidTests := true, laidLooks := .later }
def PlayerSpoiltUptoCardSaid : Prop := Claim7.holds Tryz.pinned (.plain (OpenSpec.upto playerSpoiltSpec)) playerSpoiltUptoCard

/-- THE SECOND FORM's CARD OF 'acequialaw29.PlayerFirst'. -/
def playerFirstUptoCard : Claim7 := { stood := { row := playerFirstUptoRow, standIns := [], harness := (true, "fd19057fe9e4215cef46eeb5084934125b9f08fb7c6838f8aac3e9dbf6d2ba38"), looks := true }, kinds := [], alts := [], laidByText := true, laidKinds := [.data, .data, .data, .data, .sentinel, .sentinel, .sentinel, .pinned], laidTests := true, laidLooks := .later }
def PlayerFirstUptoCardSaid : Prop := Claim7.holds Tryz.pinned (.plain (OpenSpec.upto playerFirstSpec)) playerFirstUptoCard

/-- THE SECOND FORM's CARD OF 'acequialaw29.PlayerPlans'. -/
def playerPlansUptoCard : Claim7 := { stood := { row := playerPlansUptoRow, standIns := [], harness := (true, "fd19057fe9e4215cef46eeb5084934125b9f08fb7c6838f8aac3e9dbf6d2ba38"), looks := true }, kinds := [], alts := [], laidByText := true, laidKinds := [.data, .data, .data, .data, .sentinel, .sentinel, .sentinel, .pinned], laidTests := true, laidLooks := .later }
def PlayerPlansUptoCardSaid : Prop := Claim7.holds Tryz.pinned (.plain (OpenSpec.upto playerPlansSpec)) playerPlansUptoCard
end Rows
end Go.Proofs.YtddknfpolkkbjaaGreatDoor
