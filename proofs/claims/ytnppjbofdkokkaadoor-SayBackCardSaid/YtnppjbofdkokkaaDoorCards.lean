/-
  DERIVED. GIVEN WITH THE SEED: THE CARDS: each row of YtnppjbofdkokkaaDoorRows.lean that lists a variable, with what it lists TIED to the program's text (the seventh form; the later family's looks); each row that meets fmt, with fmt's text TOLD by the authors' own Lean function (tested against real Go, not proved from fmt's source: count such statements apart). THE CARD IS WHAT COUNTS. Prove the row's statement (the work); the ties are given (YtnppjbofdkokkaaDoorTie.lean); close each card by the builder's one call (the guide's Derived/Test/ToyasCard.lean, 'card_holds'). Laid BY PROGRAM, IN A SANDBOX (cutbox-door.mjs). By AI agents, Wed Nov 11 2026. No macro, syntax, notation, axiom, sorry.
-/
import Derived.Test.YtnppjbofdkokkaaDoorRows
import GoSem.ClaimSeven
namespace Go.Proofs.YtnppjbofdkokkaaDoor
namespace Rows

/-- THE TIED CARD OF 'acequialaw28.SayBack'. -/
def sayBackCard : Claim7 := { stood := { row := sayBackRow, standIns := [], harness := (true, "a84c89f945f6132e2834334f71e063a84ad9e646cf941bf9d15873fec7717c7b"), looks := true }, kinds := [], alts := [], laidByText := true, laidKinds := [.data, .data, .data, .data, .sentinel, .sentinel, .sentinel, .pinned], laidTests := true, laidLooks := .later }
def SayBackCardSaid : Prop := Claim7.holds Tryd.pinned (.plain (OpenSpec.ofChange sayBackSpec)) sayBackCard

/-- THE SECOND FORM's CARD OF 'acequialaw28.SayBack'. -/
def sayBackUptoCard : Claim7 := { stood := { row := sayBackUptoRow, standIns := [], harness := (true, "a84c89f945f6132e2834334f71e063a84ad9e646cf941bf9d15873fec7717c7b"), looks := true }, kinds := [], alts := [], laidByText := true, laidKinds := [.data, .data, .data, .data, .sentinel, .sentinel, .sentinel, .pinned], laidTests := true, laidLooks := .later }
def SayBackUptoCardSaid : Prop := Claim7.holds Tryd.pinned (.plain (OpenSpec.upto sayBackSpec)) sayBackUptoCard
end Rows
end Go.Proofs.YtnppjbofdkokkaaDoor
