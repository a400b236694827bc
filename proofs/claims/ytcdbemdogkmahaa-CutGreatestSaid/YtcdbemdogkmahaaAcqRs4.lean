/- The layer of triples: an operation whose guard's own operation was shut out. -/
import Derived.Test.YtcdbemdogkmahaaAcqArityE
import Derived.Test.YtcdbemdogkmahaaAcqRs3
namespace Go.Acq
open Go Go.RowKit
section rules
variable {C : Cx} {ops : Array Oper} {Q : Exit → Act → World → Prop} {l : List Nat} {E : Env} {H R : Heap} {i d : Nat}
/-- the guard's slot holds nothing yet -/
def gdU (ops : Array Oper) (E : Env) : Option (Nat × Bool) → Bool
  | none => false
  | some (j, _) =>
    match ((ops[j]?).bind (·.dst)).bind (find E) with
    | some (.tuple _) => true
    | _ => false
theorem gdU_wanted {n : Nat} {D : List Deferred} {a : Act} {o : Oper} (hf : Fits n D E a) (h : gdU ops E o.guard = true) : Region.wanted o (yielded ops a.tmps) = false := by
  unfold Region.wanted
  cases hg : o.guard with
  | none => rw [hg] at h; simp [gdU] at h
  | some jw =>
    obtain ⟨j, want⟩ := jw
    rw [hg] at h
    simp only [gdU] at h
    cases hj : (ops[j]?).bind (·.dst) with
    | none => simp [hj] at h
    | some t =>
      rw [hj, Option.bind_some] at h
      cases ht : find E t with
      | none => simp [ht] at h
      | some v =>
        rw [ht] at h
        cases v with
        | tuple xs =>
          have h3 := hf.get t _ ht
          have : yielded ops a.tmps j = none := by
            unfold yielded
            rw [hj, Option.bind_some]
            rw [Array.getD_eq_getD_getElem?] at h3
            cases hq : a.tmps[t]? with
            | none => rfl
            | some u =>
              rw [hq] at h3
              have h4 : u = .tuple xs := by simpa using h3
              rw [h4]
          simp [this]
        | _ => simp at h
theorem TO.shutU {o : Oper} (ho : ops[i]? = some o) (hg : gdU ops E o.guard = true) (hdst : o.dst = some d) (hd : Nat.ble (d + 1) C.n = true) (k : TO C ops Q l ((d, undef) :: E) H) : TO C ops Q (i :: l) E H := by
  intro a w hf hi
  have hw : Region.wanted o (yielded ops a.tmps) = false := gdU_wanted hf hg
  simp only [wpOpsIn, ho, hw, Bool.false_eq_true, if_false]
  refine ⟨fun _ _ => trivial, ?_⟩
  rw [hdst]
  exact k _ _ (hf.put hd _) hi
end rules
end Go.Acq
