/- Texts of this claim, one behind the other. -/
import Derived.Test.YtcopaajoahfilaaGreatRows
import Derived.ProofKit
import Derived.ChangeOld
set_option linter.unusedVariables false
set_option linter.unusedSimpArgs false
namespace Go.Proofs.YtcopaajoahfilaaGreat
open Go.ChangeShapes Go.WideShapes Go.ChangeAt Go.RowKit
theorem jPWorkerOwns:Tryz.pinned.checked.prog.inPlace 3=Rows.workerOwnsRow.inPlace:=by kernel_rfl
theorem jUWorkerOwns:Tryz.pinned.checked.prog.unfollowed 3=Rows.workerOwnsRow.unfollowed:=by kernel_rfl
theorem jRWorkerOwns:Tryz.pinned.checked.prog.recurses 3=Rows.workerOwnsRow.recurses:=by kernel_rfl
theorem jNWorkerOwns:Tryz.pinned.checked.prog.varsNamed 3=Rows.workerOwnsRow.named:=by kernel_rfl
theorem jFWorkerOwns:joinedFacts Tryz.pinned.checked.prog 3 Tryz.f3 Rows.workerOwnsSpec Rows.workerOwnsRow=true:=by
 unfold joinedFacts
 rw [jPWorkerOwns,jUWorkerOwns,jRWorkerOwns,jNWorkerOwns]
 kernel_rfl
end Go.Proofs.YtcopaajoahfilaaGreat
