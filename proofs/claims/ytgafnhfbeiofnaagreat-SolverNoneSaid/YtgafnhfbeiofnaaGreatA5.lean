/- Texts of this claim, one behind the other. -/
import Derived.Test.YtgafnhfbeiofnaaGreatRows
import Derived.ProofKit
import Derived.ChangeOld
import Derived.Test.YtgafnhfbeiofnaaGreatA4
set_option linter.unusedVariables false
set_option linter.unusedSimpArgs false
namespace Go.Proofs.YtgafnhfbeiofnaaGreat
open Go.ChangeShapes Go.WideShapes Go.ChangeAt Go.RowKit
theorem jPSolverNone : Tryz.pinned.checked.prog.inPlace 3 = Rows.solverNoneRow.inPlace := by kernel_rfl
theorem jUSolverNone : Tryz.pinned.checked.prog.unfollowed 3 = Rows.solverNoneRow.unfollowed := by kernel_rfl
theorem jRSolverNone : Tryz.pinned.checked.prog.recurses 3 = Rows.solverNoneRow.recurses := by kernel_rfl
theorem jNSolverNone : Tryz.pinned.checked.prog.varsNamed 3 = Rows.solverNoneRow.named := by kernel_rfl
theorem jFSolverNone : joinedFacts Tryz.pinned.checked.prog 3 Tryz.f3 Rows.solverNoneSpec Rows.solverNoneRow = true := by
 unfold joinedFacts
 rw [jPSolverNone, jUSolverNone, jRSolverNone, jNSolverNone]
 kernel_rfl
end Go.Proofs.YtgafnhfbeiofnaaGreat
