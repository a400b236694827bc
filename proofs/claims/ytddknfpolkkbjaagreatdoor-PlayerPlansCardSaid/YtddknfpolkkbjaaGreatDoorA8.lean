/- Texts of this claim, one behind the other. -/
import Derived.SevenTiedAt
import Derived.Test.YtddknfpolkkbjaaGreatDoorA7
import Derived.Test.YtddknfpolkkbjaaGreatDoorA6
set_option linter.unusedVariables false
set_option linter.unusedSimpArgs false
namespace Go.Acq
open Go
theorem goes_false {P:Program}(h:P.funcs.any Func.goes=false)(c:OpenClaim):c.goesBy P=false:=by
 have h1:∀ g:Nat,(P.funcs[g]?).any Func.goes=false:=fun g=>by
  cases e:P.funcs[g]? with
  | none=>rfl
  | some f =>
   obtain ⟨hl,he⟩:=Array.getElem?_eq_some_iff.1 e
   have:=Array.any_eq_false.1 h g hl
   rw [he] at this
   simpa using this
 have h2:∀ f,P.goes f=false:=fun f=>by
  unfold Program.goes
  rw [h,Bool.and_false,Bool.or_false,List.any_eq_false]
  intro g _
  rw [h1];exact Bool.false_ne_true
 unfold OpenClaim.goesBy Program.goesAt Program.goesFrom
 have h3:(P.funcNamed c.func).any P.goes=false:=by
  cases P.funcNamed c.func with
  | none=>rfl
  | some f=>exact h2 f
 rw [h3,Bool.false_or]
 split
 ·rfl
 ·
  rw [List.any_eq_false]
  intro f _
  rw [h2];exact Bool.false_ne_true
end Go.Acq
