/- The layer of triples: handing blocks of ours to a closure. -/
import Derived.Test.YtcdbemdogkmahaaAcqDrawG
namespace Go.Acq
open Go Go.RowKit
theorem Inv.self {w0 w : World} {M M' : List Nat} {H Hm : Heap} (h : Inv w0 M w H) (hp : Pick Hm H) (hM : Hm.filterMap (·.1) = M') : Inv w M' w Hm := by
  have g := h.pick hp
  refine ⟨rfl, rfl, rfl, Nat.le_refl _, fun _ _ _ => rfl, g.own, fun b o hm => ?_, g.apart⟩
  subst hM
  first | exact Or.inr (mem_ids hm) | exact fun _ => mem_ids hm | exact Or.inl (mem_ids hm)
theorem Take.gone {p : Option Nat × Obj} {H R S Hm : Heap} (h : Take p H R) (g : List.Perm R (Hm ++ S)) : List.Perm H ((p :: Hm) ++ S) :=
  h.trans (List.Perm.cons p g)
/-- what the blocks that are written hold, by values that are drawn -/
def HRv (l : List (List Value → Heap)) : Nat → List Value → Heap → Prop := fun k vl hb => hb = (l.getD k fun _ => []) vl
end Go.Acq
