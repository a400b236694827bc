/- Texts of this claim, one behind the other. -/
import Derived.Test.YtnppjbofdkokkaaGreatDoorRows
import Derived.ProofKit
import Derived.ChangeOld
import Derived.Test.YtnppjbofdkokkaaGreatDoorA4
set_option linter.unusedVariables false
set_option linter.unusedSimpArgs false
namespace Go.Proofs.YtnppjbofdkokkaaGreatDoor
open Go.ChangeShapes Go.WideShapes Go.ChangeAt Go.RowKit
theorem jPDimacsSpoilt : Tryz.pinned.checked.prog.inPlace 8 = Rows.dimacsSpoiltRow.inPlace := by kernel_rfl
theorem jUDimacsSpoilt : Tryz.pinned.checked.prog.unfollowed 8 = Rows.dimacsSpoiltRow.unfollowed := by kernel_rfl
theorem jRDimacsSpoilt : Tryz.pinned.checked.prog.recurses 8 = Rows.dimacsSpoiltRow.recurses := by kernel_rfl
theorem jNDimacsSpoilt : Tryz.pinned.checked.prog.varsNamed 8 = Rows.dimacsSpoiltRow.named := by kernel_rfl
theorem jFDimacsSpoilt : joinedFacts Tryz.pinned.checked.prog 8 Tryz.f8 Rows.dimacsSpoiltSpec Rows.dimacsSpoiltRow = true := by
 unfold joinedFacts
 rw [jPDimacsSpoilt, jUDimacsSpoilt, jRDimacsSpoilt, jNDimacsSpoilt]
 kernel_rfl
end Go.Proofs.YtnppjbofdkokkaaGreatDoor
