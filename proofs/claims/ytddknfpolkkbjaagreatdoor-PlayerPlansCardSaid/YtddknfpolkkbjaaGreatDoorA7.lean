/- Texts of this claim, one behind the other. -/
import Derived.Test.YtddknfpolkkbjaaGreatDoorRows
import Derived.ProofKit
import Derived.ChangeOld
set_option linter.unusedVariables false
set_option linter.unusedSimpArgs false
namespace Go.Proofs.YtddknfpolkkbjaaGreatDoor
open Go.ChangeShapes Go.WideShapes Go.ChangeAt Go.RowKit
theorem jPPlayerPlans:Tryz.pinned.checked.prog.inPlace 5=Rows.playerPlansRow.inPlace:=by kernel_rfl
theorem jUPlayerPlans:Tryz.pinned.checked.prog.unfollowed 5=Rows.playerPlansRow.unfollowed:=by kernel_rfl
theorem jRPlayerPlans:Tryz.pinned.checked.prog.recurses 5=Rows.playerPlansRow.recurses:=by kernel_rfl
theorem jNPlayerPlans:Tryz.pinned.checked.prog.varsNamed 5=Rows.playerPlansRow.named:=by kernel_rfl
theorem jFPlayerPlans:joinedFacts Tryz.pinned.checked.prog 5 Tryz.f5 Rows.playerPlansSpec Rows.playerPlansRow=true:=by
 unfold joinedFacts
 rw [jPPlayerPlans,jUPlayerPlans,jRPlayerPlans,jNPlayerPlans]
 kernel_rfl
end Go.Proofs.YtddknfpolkkbjaaGreatDoor
