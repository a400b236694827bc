/- Texts of this claim, one behind the other. -/
import Derived.Test.YtnppjbofdkokkaaGreatDoorRows
import Derived.ProofKit
import Derived.ChangeOld
import Derived.Test.YtnppjbofdkokkaaGreatDoorA5
set_option linter.unusedVariables false
set_option linter.unusedSimpArgs false
namespace Go.Proofs.YtnppjbofdkokkaaGreatDoor
open Go.ChangeShapes Go.WideShapes Go.ChangeAt Go.RowKit
theorem jPSaySpoilt : Tryz.pinned.checked.prog.inPlace 5 = Rows.saySpoiltRow.inPlace := by kernel_rfl
theorem jUSaySpoilt : Tryz.pinned.checked.prog.unfollowed 5 = Rows.saySpoiltRow.unfollowed := by kernel_rfl
theorem jRSaySpoilt : Tryz.pinned.checked.prog.recurses 5 = Rows.saySpoiltRow.recurses := by kernel_rfl
theorem jNSaySpoilt : Tryz.pinned.checked.prog.varsNamed 5 = Rows.saySpoiltRow.named := by kernel_rfl
theorem jFSaySpoilt : joinedFacts Tryz.pinned.checked.prog 5 Tryz.f5 Rows.saySpoiltSpec Rows.saySpoiltRow = true := by
 unfold joinedFacts
 rw [jPSaySpoilt, jUSaySpoilt, jRSaySpoilt, jNSaySpoilt]
 kernel_rfl
end Go.Proofs.YtnppjbofdkokkaaGreatDoor
