/- Texts of this claim, one behind the other. -/
import Derived.Test.YtddknfpolkkbjaaGreatDoorRows
import Derived.ProofKit
import Derived.ChangeOld
import Derived.SevenTiedAt
import Derived.Test.YtddknfpolkkbjaaGreatDoorA7
set_option linter.unusedVariables false
set_option linter.unusedSimpArgs false
namespace Go.Proofs.YtddknfpolkkbjaaGreatDoor
open Go.ChangeShapes Go.WideShapes Go.ChangeAt Go.RowKit
theorem playerPlans_goes:false=Rows.playerPlansRow.goesBy Tryz.pinned.checked.prog:=by kernel_rfl
end Go.Proofs.YtddknfpolkkbjaaGreatDoor
