/- Texts of this claim, one behind the other. -/
import Derived.Test.YtnppjbofdkokkaaGreatDoorRows
import Derived.ProofKit
import Derived.ChangeOld
import Derived.Test.YtnppjbofdkokkaaGreatDoorA4
set_option linter.unusedVariables false
set_option linter.unusedSimpArgs false
namespace Go.Proofs.YtnppjbofdkokkaaGreatDoor
open Go.ChangeShapes Go.WideShapes Go.ChangeAt Go.RowKit
theorem jPDimacsBack : Tryz.pinned.checked.prog.inPlace 3 = Rows.dimacsBackRow.inPlace := by kernel_rfl
theorem jUDimacsBack : Tryz.pinned.checked.prog.unfollowed 3 = Rows.dimacsBackRow.unfollowed := by kernel_rfl
theorem jRDimacsBack : Tryz.pinned.checked.prog.recurses 3 = Rows.dimacsBackRow.recurses := by kernel_rfl
theorem jNDimacsBack : Tryz.pinned.checked.prog.varsNamed 3 = Rows.dimacsBackRow.named := by kernel_rfl
theorem jFDimacsBack : joinedFacts Tryz.pinned.checked.prog 3 Tryz.f3 Rows.dimacsBackSpec Rows.dimacsBackRow = true := by
 unfold joinedFacts
 rw [jPDimacsBack, jUDimacsBack, jRDimacsBack, jNDimacsBack]
 kernel_rfl
end Go.Proofs.YtnppjbofdkokkaaGreatDoor
