/- Texts of this claim, one behind the other. -/
import Derived.Test.YtobnnpdfeakbbaaGreatRows
import Derived.ProofKit
import Derived.ChangeOld
import Derived.Test.YtobnnpdfeakbbaaGreatA6
set_option linter.unusedVariables false
set_option linter.unusedSimpArgs false
namespace Go.Proofs.YtobnnpdfeakbbaaGreat
open Go.ChangeShapes Go.WideShapes Go.ChangeAt Go.RowKit
theorem jPWorkerAlone : Tryz.pinned.checked.prog.inPlace 3 = Rows.workerAloneRow.inPlace := by kernel_rfl
theorem jUWorkerAlone : Tryz.pinned.checked.prog.unfollowed 3 = Rows.workerAloneRow.unfollowed := by kernel_rfl
theorem jRWorkerAlone : Tryz.pinned.checked.prog.recurses 3 = Rows.workerAloneRow.recurses := by kernel_rfl
theorem jNWorkerAlone : Tryz.pinned.checked.prog.varsNamed 3 = Rows.workerAloneRow.named := by kernel_rfl
theorem jFWorkerAlone : joinedFacts Tryz.pinned.checked.prog 3 Tryz.f3 Rows.workerAloneSpec Rows.workerAloneRow = true := by
 unfold joinedFacts
 rw [jPWorkerAlone, jUWorkerAlone, jRWorkerAlone, jNWorkerAlone]
 kernel_rfl
end Go.Proofs.YtobnnpdfeakbbaaGreat
