/- Texts of this claim, one behind the other. -/
import Derived.Test.YtobnnpdfeakbbaaGreatA1
import Derived.Test.YtobnnpdfeakbbaaGreatA3
import Derived.Test.YtobnnpdfeakbbaaGreatA4
set_option linter.unusedVariables false
set_option linter.unusedSimpArgs false
namespace Go.Proofs.YtobnnpdfeakbbaaGreat.Ax
open Go Go.Acq Go.RowKit Go.Proofs
set_option maxHeartbeats 8000000
set_option maxRecDepth 20000
def Z4l : List (FuncId × Vx.XK) := [(153, .ld), (269, .st), (268, .add), (317, .cas)]
theorem Z5k : Vx.XsOk Tryz.prog Z4l := ⟨⟨Tryz.f153, Tryz.func153, by kernel_rfl, rfl, by kernel_rfl, by kernel_rfl⟩, ⟨Tryz.f269, Tryz.func269, by kernel_rfl, rfl, by kernel_rfl, by kernel_rfl⟩, ⟨Tryz.f268, Tryz.func268, by kernel_rfl, rfl, by kernel_rfl, by kernel_rfl⟩, ⟨Tryz.f317, Tryz.func317, by kernel_rfl, rfl, by kernel_rfl, by kernel_rfl⟩, trivial⟩
theorem Z7s : Vx.okK Tryz.prog Z4l 400 70 [iV (.lit 1), .nils] (.tup [iV (.lit 9), iV (.lit 0), .bool (.lit true)]) = true := by kernel_rfl
def Z6y : List (FuncId × Vx.XK) := (70, .known [.int .i64 (.lit 1), .nils] (.tup [.int .i64 (.lit 9), .int .i64 (.lit 0), .bool (.lit true)])) :: Z4l
theorem Z99 : Vx.XsOk Tryz.prog Z6y := ⟨Vx.known_of Xu Z5k rfl Z7s, Z5k⟩
theorem Z9c : Vx.okK Tryz.prog Z6y 400 24 [] (.bool (.lit true)) = true := by kernel_rfl
theorem Z92 (w : World) {r0 : Bool} (H : Z23 = some r0) : Fnc Tryz.prog 24 #[] w [] (fun v N => v = .bool r0 ∧ N = []) := by
 unfold Z23 at H; injection H with H; subst H; exact Vx.awakeK Xu Z99 Z9c w
end Go.Proofs.YtobnnpdfeakbbaaGreat.Ax
