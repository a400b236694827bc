/- Texts of this claim, one behind the other. -/
import Derived.Test.YtnppjbofdkokkaaGreatDoorRows
import Derived.ProofKit
import Derived.ChangeOld
import Derived.Test.YtnppjbofdkokkaaGreatDoorA4
set_option linter.unusedVariables false
set_option linter.unusedSimpArgs false
namespace Go.Proofs.YtnppjbofdkokkaaGreatDoor
open Go.ChangeShapes Go.WideShapes Go.ChangeAt Go.RowKit
theorem jPDimacsBlank : Tryz.pinned.checked.prog.inPlace 7 = Rows.dimacsBlankRow.inPlace := by kernel_rfl
theorem jUDimacsBlank : Tryz.pinned.checked.prog.unfollowed 7 = Rows.dimacsBlankRow.unfollowed := by kernel_rfl
theorem jRDimacsBlank : Tryz.pinned.checked.prog.recurses 7 = Rows.dimacsBlankRow.recurses := by kernel_rfl
theorem jNDimacsBlank : Tryz.pinned.checked.prog.varsNamed 7 = Rows.dimacsBlankRow.named := by kernel_rfl
theorem jFDimacsBlank : joinedFacts Tryz.pinned.checked.prog 7 Tryz.f7 Rows.dimacsBlankSpec Rows.dimacsBlankRow = true := by
 unfold joinedFacts
 rw [jPDimacsBlank, jUDimacsBlank, jRDimacsBlank, jNDimacsBlank]
 kernel_rfl
end Go.Proofs.YtnppjbofdkokkaaGreatDoor
