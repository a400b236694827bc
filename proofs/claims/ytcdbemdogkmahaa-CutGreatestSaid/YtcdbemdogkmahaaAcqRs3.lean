/- The layer of triples: rows of ours whose block may be none. -/
import Derived.Test.YtcdbemdogkmahaaAcqRs2
namespace Go.Acq
open Go Go.RowKit
theorem ea_some (b k : Nat) : ea (some ⟨b, 0, none⟩) k = ⟨b, k, none⟩ := by simp [ea, Addr.add_mid]
section rules
variable {C : Cx} {ops : Array Oper} {Q : Exit → Act → World → Prop} {l : List Nat} {E : Env} {H R : Heap} {i d : Nat} {ty : TypeId} {pos : String} {af : Array Edge} {g : Option (Nat × Bool)}
theorem TO.ixV {α : Type} {xs : List α} {t e : TypeId} {x y : Operand} {ob : Option Nat} {n c s : Nat} {k : IntKind} {p : Int} (hz : ob = none → c = 0) (hc : n ≤ c) (hn : xs.length = n) (hp : inb p xs.length)
    (ho : ops[i]? = some ⟨some d, .indexAddr t x y, ty, pos, af, g⟩) (hg : gdB ops E g = true) (hd : Nat.ble (d + 1) C.n = true)
    (hx : ev E x = some (.slice (sb ob) n c)) (hy : ev E y = some (.int k p)) (ht : sliceT C.P t = some e) (hs : sizeT C.P e = some s)
    (kk : TO C ops Q l ((d, .pointer (some (ea (sb ob) (p.toNat * s)))) :: E) H) : TO C ops Q (i :: l) E H := by
  obtain ⟨b, rfl⟩ := own_some hz hc hn hp
  exact TO.ix0 hn hp ho hg hd hx hy ht hs (by rw [← ea_some]; exact kk)
theorem TO.ldIV {t T' : TypeId} {x : Operand} {ob : Option Nat} {n c : Nat} {k : IntKind} {p : Int} {xs : List Int} {j : List Value} {fr : Nat × Nat} (hz : ob = none → c = 0) (hc : n ≤ c) (hn : xs.length = n) (hp : inb p xs.length) (ho : ops[i]? = some ⟨some d, .load t x, ty, pos, af, g⟩) (hg : gdB ops E g = true) (hd : Nat.ble (d + 1) C.n = true)
    (hx : ev E x = some (.pointer (some (ea (sb ob) (p.toNat * 1))))) (hT : scalT C.P t = true) (hm : (ob, Obj.cells (arr (intC k) xs j).toArray T' fr) ∈ H)
    (kk : TO C ops Q l ((d, .int k (xs.getD p.toNat 0)) :: E) H) : TO C ops Q (i :: l) E H := by
  obtain ⟨b, rfl⟩ := own_some hz hc hn hp
  exact TO.ldIO hp ho hg hd (by rw [← ea_some, ← Nat.mul_one p.toNat]; exact hx) hT hm kk
theorem TO.ldBV {t T' : TypeId} {x : Operand} {ob : Option Nat} {n c : Nat} {p : Int} {xs : List Bool} {j : List Value} {fr : Nat × Nat} (hz : ob = none → c = 0) (hc : n ≤ c) (hn : xs.length = n) (hp : inb p xs.length) (ho : ops[i]? = some ⟨some d, .load t x, ty, pos, af, g⟩) (hg : gdB ops E g = true) (hd : Nat.ble (d + 1) C.n = true)
    (hx : ev E x = some (.pointer (some (ea (sb ob) (p.toNat * 1))))) (hT : scalT C.P t = true) (hm : (ob, Obj.cells (arr boolC xs j).toArray T' fr) ∈ H)
    (kk : TO C ops Q l ((d, .bool (xs.getD p.toNat false)) :: E) H) : TO C ops Q (i :: l) E H := by
  obtain ⟨b, rfl⟩ := own_some hz hc hn hp
  exact TO.ldBO hp ho hg hd (by rw [← ea_some, ← Nat.mul_one p.toNat]; exact hx) hT hm kk
theorem TO.stIV {t T' : TypeId} {x y : Operand} {ob : Option Nat} {n c : Nat} {k : IntKind} {p v : Int} {xs : List Int} {j : List Value} (hz : ob = none → c = 0) (hc : n ≤ c) (hn : xs.length = n) (hp : inb p xs.length) (ho : ops[i]? = some ⟨none, .store t x y, ty, pos, af, g⟩) (hg : gdB ops E g = true)
    (hx : ev E x = some (.pointer (some (ea (sb ob) (p.toNat * 1))))) (hy : ev E y = some (.int k v)) (ht : Take (ob, .cells (arr (intC k) xs j).toArray T' (0, 0)) H R) (hs : sizeT C.P t = some 1)
    (kk : TO C ops Q l E ((ob, .cells (arr (intC k) (xs.set p.toNat v) j).toArray T' (0, 0)) :: R)) : TO C ops Q (i :: l) E H := by
  obtain ⟨b, rfl⟩ := own_some hz hc hn hp
  exact TO.stIO hp ho hg (by rw [← ea_some, ← Nat.mul_one p.toNat]; exact hx) hy ht hs kk
theorem TO.stBV {t T' : TypeId} {x y : Operand} {ob : Option Nat} {n c : Nat} {p : Int} {v : Bool} {xs : List Bool} {j : List Value} (hz : ob = none → c = 0) (hc : n ≤ c) (hn : xs.length = n) (hp : inb p xs.length) (ho : ops[i]? = some ⟨none, .store t x y, ty, pos, af, g⟩) (hg : gdB ops E g = true)
    (hx : ev E x = some (.pointer (some (ea (sb ob) (p.toNat * 1))))) (hy : ev E y = some (.bool v)) (ht : Take (ob, .cells (arr boolC xs j).toArray T' (0, 0)) H R) (hs : sizeT C.P t = some 1)
    (kk : TO C ops Q l E ((ob, .cells (arr boolC (xs.set p.toNat v) j).toArray T' (0, 0)) :: R)) : TO C ops Q (i :: l) E H := by
  obtain ⟨b, rfl⟩ := own_some hz hc hn hp
  exact TO.stBO hp ho hg (by rw [← ea_some, ← Nat.mul_one p.toNat]; exact hx) hy ht hs kk
end rules
end Go.Acq
