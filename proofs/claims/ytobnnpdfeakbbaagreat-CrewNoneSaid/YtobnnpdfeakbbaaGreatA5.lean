/- Texts of this claim, one behind the other. -/
import Derived.Test.YtobnnpdfeakbbaaGreatA1
import Derived.Test.YtobnnpdfeakbbaaGreatA3
import Derived.Test.YtobnnpdfeakbbaaGreatA4
set_option linter.unusedVariables false
set_option linter.unusedSimpArgs false
namespace Go.Proofs.YtobnnpdfeakbbaaGreat.Ax
open Go Go.Acq Go.RowKit Go.Proofs
set_option maxHeartbeats 8000000
set_option maxRecDepth 20000
def Z3l : List (FuncId × Vx.XK) := [(153, .ld), (269, .st), (268, .add), (317, .cas)]
theorem Z76 : Vx.XsOk Tryz.prog Z3l := ⟨⟨Tryz.f153, Tryz.func153, by kernel_rfl, rfl, by kernel_rfl, by kernel_rfl⟩, ⟨Tryz.f269, Tryz.func269, by kernel_rfl, rfl, by kernel_rfl, by kernel_rfl⟩, ⟨Tryz.f268, Tryz.func268, by kernel_rfl, rfl, by kernel_rfl, by kernel_rfl⟩, ⟨Tryz.f317, Tryz.func317, by kernel_rfl, rfl, by kernel_rfl, by kernel_rfl⟩, trivial⟩
theorem Za8 : Vx.okK Tryz.prog Z3l 400 70 [.int .i64 (.lit 1), .nils] (.tup [.int .i64 (.lit 9), .int .i64 (.lit 0), .bool (.lit true)]) = true := by kernel_rfl
def Z60 : List (FuncId × Vx.XK) := (70, .known [.int .i64 (.lit 1), .nils] (.tup [.int .i64 (.lit 9), .int .i64 (.lit 0), .bool (.lit true)])) :: Z3l
theorem Zaj : Vx.XsOk Tryz.prog Z60 := ⟨Vx.known_of Xt Z76 rfl Za8, Z76⟩
theorem Zb3 : Vx.okK Tryz.prog Z60 400 24 [] (.bool (.lit true)) = true := by kernel_rfl
theorem Z9x (w : World) {r0 : Bool} (H : Z1p = some r0) : Fnc Tryz.prog 24 #[] w [] (fun v N => v = .bool r0 ∧ N = []) := by
 unfold Z1p at H; injection H with H; subst H; exact Vx.awakeK Xt Zaj Zb3 w
end Go.Proofs.YtobnnpdfeakbbaaGreat.Ax
