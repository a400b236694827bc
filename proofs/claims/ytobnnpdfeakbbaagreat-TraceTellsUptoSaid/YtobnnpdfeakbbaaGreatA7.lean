/- Texts of this claim, one behind the other. -/
import Derived.Test.YtobnnpdfeakbbaaGreatRows
import Derived.ProofKit
import Derived.ChangeOld
import Derived.Test.YtobnnpdfeakbbaaGreatA6
set_option linter.unusedVariables false
set_option linter.unusedSimpArgs false
namespace Go.Proofs.YtobnnpdfeakbbaaGreat
open Go.ChangeShapes Go.WideShapes Go.ChangeAt Go.RowKit
theorem jPTraceTells : Tryz.pinned.checked.prog.inPlace 9 = Rows.traceTellsUptoRow.inPlace := by kernel_rfl
theorem jUTraceTells : Tryz.pinned.checked.prog.unfollowed 9 = Rows.traceTellsUptoRow.unfollowed := by kernel_rfl
theorem jRTraceTells : Tryz.pinned.checked.prog.recurses 9 = Rows.traceTellsUptoRow.recurses := by kernel_rfl
theorem jNTraceTells : Tryz.pinned.checked.prog.varsNamed 9 = Rows.traceTellsUptoRow.named := by kernel_rfl
theorem jFTraceTells : joinedFacts Tryz.pinned.checked.prog 9 Tryz.f9 Rows.traceTellsSpec Rows.traceTellsUptoRow = true := by
 unfold joinedFacts
 rw [jPTraceTells, jUTraceTells, jRTraceTells, jNTraceTells]
 kernel_rfl
end Go.Proofs.YtobnnpdfeakbbaaGreat
