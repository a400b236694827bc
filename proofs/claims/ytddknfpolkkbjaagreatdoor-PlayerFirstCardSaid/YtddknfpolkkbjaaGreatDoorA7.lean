/- Texts of this claim, one behind the other. -/
import Derived.Test.YtddknfpolkkbjaaGreatDoorRows
import Derived.ProofKit
import Derived.ChangeOld
set_option linter.unusedVariables false
set_option linter.unusedSimpArgs false
namespace Go.Proofs.YtddknfpolkkbjaaGreatDoor
open Go.ChangeShapes Go.WideShapes Go.ChangeAt Go.RowKit
theorem jPPlayerFirst:Tryz.pinned.checked.prog.inPlace 4=Rows.playerFirstRow.inPlace:=by kernel_rfl
theorem jUPlayerFirst:Tryz.pinned.checked.prog.unfollowed 4=Rows.playerFirstRow.unfollowed:=by kernel_rfl
theorem jRPlayerFirst:Tryz.pinned.checked.prog.recurses 4=Rows.playerFirstRow.recurses:=by kernel_rfl
theorem jNPlayerFirst:Tryz.pinned.checked.prog.varsNamed 4=Rows.playerFirstRow.named:=by kernel_rfl
theorem jFPlayerFirst:joinedFacts Tryz.pinned.checked.prog 4 Tryz.f4 Rows.playerFirstSpec Rows.playerFirstRow=true:=by
 unfold joinedFacts
 rw [jPPlayerFirst,jUPlayerFirst,jRPlayerFirst,jNPlayerFirst]
 kernel_rfl
end Go.Proofs.YtddknfpolkkbjaaGreatDoor
