/- Texts of this claim, one behind the other. -/
import Derived.Test.YtnppjbofdkokkaaGreatDoorRows
import Derived.ProofKit
import Derived.ChangeOld
import Derived.Test.YtnppjbofdkokkaaGreatDoorA4
set_option linter.unusedVariables false
set_option linter.unusedSimpArgs false
namespace Go.Proofs.YtnppjbofdkokkaaGreatDoor
open Go.ChangeShapes Go.WideShapes Go.ChangeAt Go.RowKit
theorem jPSayBlank : Tryz.pinned.checked.prog.inPlace 4 = Rows.sayBlankRow.inPlace := by kernel_rfl
theorem jUSayBlank : Tryz.pinned.checked.prog.unfollowed 4 = Rows.sayBlankRow.unfollowed := by kernel_rfl
theorem jRSayBlank : Tryz.pinned.checked.prog.recurses 4 = Rows.sayBlankRow.recurses := by kernel_rfl
theorem jNSayBlank : Tryz.pinned.checked.prog.varsNamed 4 = Rows.sayBlankRow.named := by kernel_rfl
theorem jFSayBlank : joinedFacts Tryz.pinned.checked.prog 4 Tryz.f4 Rows.sayBlankSpec Rows.sayBlankRow = true := by
 unfold joinedFacts
 rw [jPSayBlank, jUSayBlank, jRSayBlank, jNSayBlank]
 kernel_rfl
end Go.Proofs.YtnppjbofdkokkaaGreatDoor
