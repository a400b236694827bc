/- Texts of this claim, one behind the other. -/
import Derived.Test.YtnppjbofdkokkaaGreatDoorRows
import Derived.ProofKit
import Derived.ChangeOld
import Derived.Test.YtnppjbofdkokkaaGreatDoorA3
set_option linter.unusedVariables false
set_option linter.unusedSimpArgs false
namespace Go.Proofs.YtnppjbofdkokkaaGreatDoor
open Go.ChangeShapes Go.WideShapes Go.ChangeAt Go.RowKit
theorem jPDimacsNumbers : Tryz.pinned.checked.prog.inPlace 6 = Rows.dimacsNumbersRow.inPlace := by kernel_rfl
theorem jUDimacsNumbers : Tryz.pinned.checked.prog.unfollowed 6 = Rows.dimacsNumbersRow.unfollowed := by kernel_rfl
theorem jRDimacsNumbers : Tryz.pinned.checked.prog.recurses 6 = Rows.dimacsNumbersRow.recurses := by kernel_rfl
theorem jNDimacsNumbers : Tryz.pinned.checked.prog.varsNamed 6 = Rows.dimacsNumbersRow.named := by kernel_rfl
theorem jFDimacsNumbers : joinedFacts Tryz.pinned.checked.prog 6 Tryz.f6 Rows.dimacsNumbersSpec Rows.dimacsNumbersRow = true := by
 unfold joinedFacts
 rw [jPDimacsNumbers, jUDimacsNumbers, jRDimacsNumbers, jNDimacsNumbers]
 kernel_rfl
end Go.Proofs.YtnppjbofdkokkaaGreatDoor
