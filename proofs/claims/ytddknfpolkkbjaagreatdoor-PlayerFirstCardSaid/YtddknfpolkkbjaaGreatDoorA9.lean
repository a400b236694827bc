/- Texts of this claim, one behind the other. -/
import Derived.Test.YtddknfpolkkbjaaGreatDoorRows
import Derived.ProofKit
import Derived.Test.YtddknfpolkkbjaaGreatDoorA8
set_option linter.unusedVariables false
set_option linter.unusedSimpArgs false
namespace Go.Proofs.YtddknfpolkkbjaaGreatDoor
theorem playerFirst_none:Tryz.pinned.checked.prog.funcs.any Func.goes=false:=by kernel_rfl
theorem playerFirst_goes:false=Rows.playerFirstRow.goesBy Tryz.pinned.checked.prog:=(Acq.goes_false playerFirst_none _).symm
end Go.Proofs.YtddknfpolkkbjaaGreatDoor
