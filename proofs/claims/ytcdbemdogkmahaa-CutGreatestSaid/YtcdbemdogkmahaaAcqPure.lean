/- Plain data: arcs, nets; what the program's small functions compute. -/
import Derived.Test.YtcdbemdogkmahaaAcqApp
namespace Go.Acq
open Go Go.RowKit
structure Arc where
  fr : Int
  to : Int
  cap : Int
  deriving DecidableEq
instance : Inhabited Arc := ⟨⟨0, 0, 0⟩⟩
/-- an arc's cells -/
def arcC (a : Arc) : List Value := [.int .i64 a.fr, .int .i64 a.to, .int .i64 a.cap]
theorem arcC_len (a : Arc) : (arcC a).length = 3 := rfl
/-- the cells of a block that was there -/
def Has (w : World) (b : Nat) (cs : List Value) : Prop := ∀ (j : Nat) v, cs[j]? = some v → w.cell? ⟨b, j, none⟩ = some v
section
variable {w w0 : World} {M : List Nat} {H : Heap} {b : Nat} {cs : List Value}
theorem Has.mono (h : Has w0 b cs) (hi : Inv w0 [] w H) : Has w b cs := fun j v hj => hi.cell_old (h j v hj) (by simp)
theorem Inv.has (hi : Inv w0 M w H) {T' : TypeId} {fr : Nat × Nat} (hm : (some b, Obj.cells cs.toArray T' fr) ∈ H) : Has w b cs := fun j v hj => by rw [hi.cell_own hm]; simpa using hj
theorem Inv.step {w' : World} {N : Heap} (h : Inv w0 [] w H) (g : Inv w [] w' N) : Inv w0 [] w' [] := (h.join0 g).pick Pick.nil
end
section rules
variable {C : Cx} {ops : Array Oper} {Q : Exit → Act → World → Prop} {l : List Nat} {E : Env} {H R : Heap} {i d : Nat} {ty : TypeId} {pos : String} {af : Array Edge} {g : Option (Nat × Bool)}
end rules
/-! ### plain lemmas -/
theorem neg_lt_tmod (x : Int) {n : Int} (h : 0 < n) : -n < x.tmod n := by
  have h1 := Int.tmod_lt_of_pos (-x) h
  rw [Int.neg_tmod] at h1; omega
theorem getD_mem {α : Type} {xs : List α} {k : Nat} (h : k < xs.length) (d : α) : xs.getD k d ∈ xs := by
  rw [List.getD_eq_getElem?_getD, List.getElem?_eq_getElem h]; exact List.getElem_mem h

theorem eq_of_getD {α : Type} {xs ys : List α} (d : α) (hl : xs.length = ys.length) (h : ∀ i, i < xs.length → xs.getD i d = ys.getD i d) : xs = ys := by
  apply List.ext_getElem hl
  intro i h1 h2
  have := h i h1
  rw [List.getD_eq_getElem?_getD, List.getD_eq_getElem?_getD, List.getElem?_eq_getElem h1, List.getElem?_eq_getElem h2] at this
  exact this
/-- Among -/
def among (x n : Int) : Int := if n < 1 then 0 else (x.tmod n + n).tmod n
theorem among_range {x n : Int} (h : 1 ≤ n) : 0 ≤ among x n ∧ among x n < n := by
  unfold among
  rw [if_neg (by omega)]
  have h1 := Int.tmod_lt_of_pos x (show 0 < n by omega)
  have h2 := neg_lt_tmod x (show 0 < n by omega)
  have h3 := Int.tmod_lt_of_pos (x.tmod n + n) (show 0 < n by omega)
  have h4 := Int.tmod_nonneg n (show 0 ≤ x.tmod n + n by omega)
  omega

/-- what is left of a number when all capacities are taken off, if none is below 0 or above what is left -/
def sumL : Int → List Arc → Option Int
  | left, [] => some left
  | left, a :: as => if a.cap < 0 ∨ left < a.cap then none else sumL (left - a.cap) as
theorem sumL_drop {left : Int} {as : List Arc} {k : Nat} (hk : k < as.length) : sumL left (as.drop k) = if (as.getD k default).cap < 0 ∨ left < (as.getD k default).cap then none else sumL (left - (as.getD k default).cap) (as.drop (k + 1)) := by
  rw [List.drop_eq_getElem_cons hk, sumL, List.getD_eq_getElem?_getD, List.getElem?_eq_getElem hk]; rfl

/-- net.Check -/
def vertexB (N v : Int) : Bool := decide (0 ≤ v ∧ v < N)
def endsB (N : Int) (a : Arc) : Bool := vertexB N a.fr && vertexB N a.to
def capB (a : Arc) : Bool := decide (0 ≤ a.cap)
def checkE (N S T : Int) (as : List Arc) : Int :=
  if ¬(2 ≤ N ∧ N ≤ 4096) then 10 else if ¬((as.length : Int) ≤ 16384) then 11 else if ¬(vertexB N S = true ∧ vertexB N T = true ∧ S ≠ T) then 12
  else if as.all (endsB N) = false then 13 else if as.all capB = false then 14 else if (sumL 4611686018427387904 as).isNone then 15 else 0
section
variable {N S T : Int} {n : Nat} {al : List Arc}
end
end Go.Acq
