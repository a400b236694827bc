/- Texts of this claim, one behind the other. -/
import Derived.Test.YtnppjbofdkokkaaDoorRows
import Derived.ProofKit
import Derived.ChangeOld
import Derived.Test.YtnppjbofdkokkaaDoorA3
set_option linter.unusedVariables false
set_option linter.unusedSimpArgs false
namespace Go.Proofs.YtnppjbofdkokkaaDoor
open Go.ChangeShapes Go.WideShapes Go.ChangeAt Go.RowKit
theorem jPSayBack : Tryd.pinned.checked.prog.inPlace 3 = Rows.sayBackRow.inPlace := by kernel_rfl
theorem jUSayBack : Tryd.pinned.checked.prog.unfollowed 3 = Rows.sayBackRow.unfollowed := by kernel_rfl
theorem jRSayBack : Tryd.pinned.checked.prog.recurses 3 = Rows.sayBackRow.recurses := by kernel_rfl
theorem jNSayBack : Tryd.pinned.checked.prog.varsNamed 3 = Rows.sayBackRow.named := by kernel_rfl
theorem jFSayBack : joinedFacts Tryd.pinned.checked.prog 3 Tryd.f3 Rows.sayBackSpec Rows.sayBackRow = true := by
 unfold joinedFacts
 rw [jPSayBack, jUSayBack, jRSayBack, jNSayBack]
 kernel_rfl
end Go.Proofs.YtnppjbofdkokkaaDoor
