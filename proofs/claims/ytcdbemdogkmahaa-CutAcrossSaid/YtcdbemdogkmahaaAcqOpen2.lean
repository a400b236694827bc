/- Arguments opened: rows of numbers of any kind, of bools. -/
import Derived.Test.YtcdbemdogkmahaaAcqOpen
import Derived.Test.YtcdbemdogkmahaaAcqRs3
namespace Go.Acq
open Go Go.RowKit Go.ChangeShapes Go.WideShapes Go.Deep Go.Joins
theorem i64ok_wf {x : Int} (h : (Lit.int .i64 x).wf = true) : i64ok x := by simp [Lit.wf, IntKind.min, IntKind.max, IntKind.signed, IntKind.bits] at h; omega
section
variable {H : Type} {enc : TypeId × Value → H} {P : Program} {w : World} {base : Nat} {spare : Nat → Bool} {held : Bool}
theorem open_row {t e : TypeId} {k : IntKind} {fuel : Nat} {v : Value} {x : DataW H × List MemPlace} (ht : P.underlying t = some (.slice e)) (he : P.underlying e = some (.int k)) (hc : P.cellsOf e = 1)
    (h : DataW.trod enc P w base spare held fuel t [v] = some x) :
    ∃ (b : Option Addr) (n c : Nat) (xs : List Int), v = .slice b n c ∧ RO w (intC k) 1 b n xs ∧ n ≤ c ∧ n ≤ 9223372036854775807 ∧ ∀ y, y ∈ xs → (Lit.int k y).wf = true := by
  rcases open_ints ht he hc h with ⟨hcs, _⟩ | ⟨a, l, c, zs, hcs, _, hl, hm, hz, _, hcell, hwz⟩
  · injection hcs with h1 _
    exact ⟨none, 0, 0, [], h1, RO.nil' w (fun _ => rfl), Nat.le_refl _, by omega, fun y hy => by cases hy⟩
  · injection hcs with h1 _
    have hlz : l ≤ zs.length := by rw [hz]; split <;> omega
    refine ⟨some a, l, c, zs.take l, h1, ⟨by rw [List.length_take]; omega, (fun e => by cases e), fun _ => rfl, fun o q ho hq x hx => ?_⟩, hl, by unfold maxLen at hm; omega, fun y hy => hwz y (List.mem_of_mem_take hy)⟩
    rw [List.length_take] at ho
    have hq0 : q = 0 := by omega
    subst hq0
    rw [List.getElem?_take, if_pos (by omega)] at hx
    have := hcell o (by omega)
    rw [List.getD_eq_getElem?_getD, hx] at this
    simpa [ea, intC] using this
end
end Go.Acq
