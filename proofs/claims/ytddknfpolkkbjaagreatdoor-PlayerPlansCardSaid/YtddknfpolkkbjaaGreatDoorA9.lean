/- Texts of this claim, one behind the other. -/
import Derived.Test.YtddknfpolkkbjaaGreatDoorRows
import Derived.ProofKit
import Derived.Test.YtddknfpolkkbjaaGreatDoorA8
set_option linter.unusedVariables false
set_option linter.unusedSimpArgs false
namespace Go.Proofs.YtddknfpolkkbjaaGreatDoor
theorem playerPlans_none:Tryz.pinned.checked.prog.funcs.any Func.goes=false:=by kernel_rfl
theorem playerPlans_goes:false=Rows.playerPlansRow.goesBy Tryz.pinned.checked.prog:=(Acq.goes_false playerPlans_none _).symm
end Go.Proofs.YtddknfpolkkbjaaGreatDoor
