/- Texts of this claim, one behind the other. -/
import Derived.Test.YtobnnpdfeakbbaaGreatRows
import Derived.ProofKit
import Derived.ChangeOld
import Derived.Test.YtobnnpdfeakbbaaGreatA6
set_option linter.unusedVariables false
set_option linter.unusedSimpArgs false
namespace Go.Proofs.YtobnnpdfeakbbaaGreat
open Go.ChangeShapes Go.WideShapes Go.ChangeAt Go.RowKit
theorem jPCrewNone : Tryz.pinned.checked.prog.inPlace 8 = Rows.crewNoneRow.inPlace := by kernel_rfl
theorem jUCrewNone : Tryz.pinned.checked.prog.unfollowed 8 = Rows.crewNoneRow.unfollowed := by kernel_rfl
theorem jRCrewNone : Tryz.pinned.checked.prog.recurses 8 = Rows.crewNoneRow.recurses := by kernel_rfl
theorem jNCrewNone : Tryz.pinned.checked.prog.varsNamed 8 = Rows.crewNoneRow.named := by kernel_rfl
theorem jFCrewNone : joinedFacts Tryz.pinned.checked.prog 8 Tryz.f8 Rows.crewNoneSpec Rows.crewNoneRow = true := by
 unfold joinedFacts
 rw [jPCrewNone, jUCrewNone, jRCrewNone, jNCrewNone]
 kernel_rfl
end Go.Proofs.YtobnnpdfeakbbaaGreat
