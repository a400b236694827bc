/- The layer of triples: an append to a row that is full: the row that was there stays. -/
import Derived.Test.YtcdbemdogkmahaaAcqSqR
namespace Go.Acq
open Go Go.RowKit
section rules
variable {C : Cx} {ops : Array Oper} {Q : Exit → Act → World → Prop} {l : List Nat} {E : Env} {H R : Heap} {i d : Nat} {ty : TypeId} {pos : String} {af : Array Edge} {g : Option (Nat × Bool)}
theorem TO.appFull {α : Type} {f : α → List Value} {s by' : Nat} {z : Value} {t e : TypeId} {x y : Operand} {ob : Option Nat} {base : Option Addr} {n m cy : Nat} {xs ys : List α} {j : List Value}
    (hf : ∀ x, (f x).length = s) (h1 : ∀ x, (f x).all (·.oneCell') = true) (hT : ElemT C.P t e s by' z) (hk : apok (xs ++ ys).length by')
    (ho : ops[i]? = some ⟨some d, .call ⟨.builtin .append, #[x, y], #[t, t]⟩, ty, pos, af, g⟩) (hg : gdB ops E g = true) (hd : Nat.ble (d + 1) C.n = true)
    (hx : ev E x = some (.slice (sb ob) n n)) (hy : ev E y = some (.slice base m cy)) (hm : 0 < m)
    (ht : (ob, .cells (arr f xs j).toArray e (0, 0)) ∈ H) (hn : xs.length = n) (h0 : ob = none → n = 0)
    (hsrc : ∀ w, Inv C.w0 C.M w H → RS w [] f s base m cy ys)
    (kk : ∀ (ob' : Option Nat) (c' : Nat) (j' : List Value), n + m ≤ c' → j'.length = (c' - (n + m)) * s → (ob' = none → c' = 0) → TO C ops Q l ((d, .slice (sb ob') (n + m) c') :: E) ((ob', .cells (arr f (xs ++ ys) j').toArray e (0, 0)) :: H)) :
    TO C ops Q (i :: l) E H := by
  refine TO.gen ho hg (by simp) fun a w hfit hi => ?_
  obtain ⟨ti, hti, hsz⟩ := sizeT_eq hT.size
  have hu := sliceT_eq hT.slice
  have hz' : ti.zero = some z := by have := hT.zero; simpa [zeroT, hti] using this
  have hb' : ti.bytes = by' := by have := hT.bytes; simpa [bytesT, hti] using this
  have hs := (hsrc w hi).ro
  have hl : (xs ++ ys).length = n + m := lenApp hn hs.len
  rw [hl] at hk
  have hroom := hk.1
  have hmax := hk.2
  have hro := hi.roO hf ht hn (fun e => h0 e)
  have hexec : (execOp a.eval ⟨some d, .call ⟨.builtin .append, #[x, y], #[t, t]⟩, ty, pos, af, g⟩).run C.P w = ((Builtin.append_ #[t, t] ty #[.slice (sb ob) n n, .slice base m cy]).run C.P w).andThen fun v w' => .ok (.value v) w' := by
    simp [execOp, resolve, invoke, builtin, hfit.ev hx, hfit.ev hy]
  rw [hexec]
  have hold : (Builtin.firstCells ti.size n (.slice (sb ob) n n)).run C.P w.drew = .ok (xs.flatMap f).toArray w.drew := by rw [hsz]; exact hro.drew.first n
  have hg2 := run_append_grow_src (P := C.P) w t t ty e ti z hu hti hz' (sb ob) n n (xs.flatMap f) hold (.slice base m cy) m (ys.flatMap f) (by rw [hsz]; exact hs.src hu h1 cy) (by omega) (by omega) (by
      rw [hb']; exact growslice_fits (by omega) hroom)
  simp only [hg2, Result.andThen_ok]
  have hcap : n + m ≤ grownCap w (n + m) n e := by unfold grownCap Question.cut; simp only; omega
  refine kk (some w.heap.size) (grownCap w (n + m) n e) (Builtin.zeroCells z.cells (grownCap w (n + m) n e - (n + m))).toList hcap (by rw [Array.length_toList, size_zeroCells, hT.zsize]) (by simp) _ _ (hfit.put hd _) ?_
  have e2 : ((xs.flatMap f ++ ys.flatMap f).toArray ++ Builtin.zeroCells z.cells (grownCap w (n + m) n e - (n + m))) = (arr f (xs ++ ys) (Builtin.zeroCells z.cells (grownCap w (n + m) n e - (n + m))).toList).toArray := by
    simp only [arr, List.flatMap_append]
    apply Array.ext'
    simp [List.append_assoc]
  rw [e2]
  exact hi.drew.alloc (Obj.cells (arr f (xs ++ ys) (Builtin.zeroCells z.cells (grownCap w (n + m) n e - (n + m))).toList).toArray e (0, 0))
end rules
end Go.Acq
