/- The layer of triples: an append to a row that is full: the row that was there stays. -/
import Derived.Test.YtcdbemdogkmahaaAcqSqR
namespace Go.Acq
open Go Go.RowKit
theorem inbLit {α : Type} {xs : List α} {k : Nat} (h : Nat.blt k xs.length = true) : inb (k : Int) xs.length := ⟨Int.natCast_nonneg k, Int.ofNat_lt.2 (Nat.le_of_ble_eq_true h)⟩
section rules
variable {C : Cx} {ops : Array Oper} {Q : Exit → Act → World → Prop} {l : List Nat} {E : Env} {H R : Heap} {i d : Nat} {ty : TypeId} {pos : String} {af : Array Edge} {g : Option (Nat × Bool)}
end rules
end Go.Acq
