/- The layer of triples: maps of our own whose keys are integers; a range over one, in whatever order. -/
import Derived.Test.YtcdbemdogkmahaaAcqRs4
import Derived.Maps.RangeRun
namespace Go.Acq
open Go Go.RowKit
set_option linter.unusedSimpArgs false
section
variable {α : Type} {q : IntKind} {f : α → Value} {k : Int} {z v : α}
end
/-! ### the operations -/
section rules
variable {C : Cx} {ops : Array Oper} {Q : Exit → Act → World → Prop} {l : List Nat} {E : Env} {H R : Heap} {i d : Nat} {ty : TypeId} {pos : String} {af : Array Edge} {g : Option (Nat × Bool)}
variable {α : Type} {q : IntKind} {f : α → Value}
end rules
end Go.Acq
