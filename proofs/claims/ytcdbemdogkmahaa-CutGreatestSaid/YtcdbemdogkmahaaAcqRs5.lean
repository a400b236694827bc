/- The layer of triples: the lower half of a word; slots that are wanted no more. -/
import Derived.Test.YtcdbemdogkmahaaAcqMaps
import Derived.Laws.Bits64b
namespace Go.Acq
open Go Go.RowKit
section rules
variable {C : Cx} {ops : Array Oper} {Q : Exit → Act → World → Prop} {l : List Nat} {E : Env} {H R : Heap} {i d : Nat} {ty : TypeId} {pos : String} {af : Array Edge} {g : Option (Nat × Bool)}
theorem T.trim {c : Code} {E' : Env} (hE : AllF E' E) (h : T C c Q E' H) : T C c Q E H := T.weak h hE.sub (Pick.refl _)
end rules
end Go.Acq
