/- The layer of triples: loops and meeting ways with several ghosts. (Written by arity.py.) -/
import Derived.Test.YtcdbemdogkmahaaAcqCore
namespace Go.Acq
open Go Go.RowKit
section
variable {C : Cx} {Q : Exit → Act → World → Prop} {E : Env} {H : Heap} {c x y : Code}
end
end Go.Acq
