/- The layer of triples: the lower half of a word; slots that are wanted no more. -/
import Derived.Test.YtcdbemdogkmahaaAcqMaps
import Derived.Laws.Bits64b
namespace Go.Acq
open Go Go.RowKit
section rules
variable {C : Cx} {ops : Array Oper} {Q : Exit → Act → World → Prop} {l : List Nat} {E : Env} {H R : Heap} {i d : Nat} {ty : TypeId} {pos : String} {af : Array Edge} {g : Option (Nat × Bool)}
theorem bits_mask {p : Int} (h : u64ok p) : bits .and .u64 p 4294967295 = p % 4294967296 := by
  obtain ⟨a, rfl⟩ : ∃ a : Nat, p = a := ⟨p.toNat, by have := h.1; omega⟩
  have h2 := h.2
  have e := bits_and_u64_nat a 4294967295 (by omega) (by omega)
  have e2 : a &&& 4294967295 = a % 4294967296 := Nat.and_two_pow_sub_one_eq_mod a 32
  rw [e2] at e
  have e3 : ((a : Int) % 4294967296) = ((a % 4294967296 : Nat) : Int) := by omega
  rw [e3]; exact e
theorem TO.andM {t t2 : TypeId} {x y : Operand} {p : Int} (h : u64ok p) (ho : ops[i]? = some ⟨some d, .binOp .and t x y t2, ty, pos, af, g⟩) (hg : gdB ops E g = true) (hd : Nat.ble (d + 1) C.n = true) (hx : ev E x = some (.int .u64 p)) (hy : ev E y = some (.int .u64 4294967295))
    (kk : TO C ops Q l ((d, .int .u64 (p % 4294967296)) :: E) H) : TO C ops Q (i :: l) E H :=
  TO.val ho hg hd (by simp) (fun a w hf _ => by
    have : (binOp .and t (.int .u64 p) (.int .u64 4294967295)) = pure (.int .u64 (p % 4294967296)) := by
      rw [← bits_mask h]; rfl
    simp [execOp, hf.ev hx, hf.ev hy, eqGuard_at_int, this]) kk
theorem T.trim {c : Code} {E' : Env} (hE : AllF E' E) (h : T C c Q E' H) : T C c Q E H := T.weak h hE.sub (Pick.refl _)
end rules
end Go.Acq
