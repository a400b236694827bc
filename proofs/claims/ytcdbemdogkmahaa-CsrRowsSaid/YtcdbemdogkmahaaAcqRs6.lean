/- The layer of triples: copy into a part of a row of ours. -/
import Derived.Test.YtcdbemdogkmahaaAcqRs5
namespace Go.Acq
open Go Go.RowKit
section rules
variable {C : Cx} {ops : Array Oper} {Q : Exit → Act → World → Prop} {l : List Nat} {E : Env} {H R : Heap} {i d : Nat} {ty : TypeId} {pos : String} {af : Array Edge} {g : Option (Nat × Bool)}
theorem copy_part {α : Type} {f : α → List Value} {s : Nat} (hf : ∀ x, (f x).length = s) (xs ys : List α) (j : List Value) (o : Nat) (ho : o ≤ xs.length) :
    (arr f xs j).take (o * s) ++ (ys.take (xs.length - o)).flatMap f ++ (arr f xs j).drop (o * s + ((ys.take (xs.length - o)).flatMap f).length) = arr f (xs.take o ++ cpy (xs.drop o) ys) j := by
  have h1 : arr f xs j = (xs.take o).flatMap f ++ arr f (xs.drop o) j := by
    simp only [arr]
    conv => lhs; rw [← List.take_append_drop o xs, List.flatMap_append, List.append_assoc]
  have h2 : ((xs.take o).flatMap f).length = o * s := by rw [length_flat hf, List.length_take, Nat.min_eq_left ho]
  have h3 := copy_cells hf (xs.drop o) ys j
  rw [List.length_drop] at h3
  rw [h1, ← h2, List.take_left, List.drop_length_add_append, List.append_assoc, h3]
  simp only [arr, List.flatMap_append, List.append_assoc]
theorem cpyV_len {α : Type} {xs ys : List α} {n : Nat} {p : Int} (hn : xs.length = n) (h : 0 ≤ p ∧ p ≤ (xs.length : Int)) : (xs.take p.toNat ++ cpy (xs.drop p.toNat) ys).length = n := by
  rw [List.length_append, cpy_len (n := xs.length - p.toNat) (by rw [List.length_drop]), List.length_take]; omega
theorem TO.copyV {α : Type} {f : α → List Value} {s : Nat} {t t' e : TypeId} {x y : Operand} {b : Nat} {o : Nat} {base : Option Addr} {n c m cy : Nat} {xs ys : List α} {j : List Value}
    (hf : ∀ x, (f x).length = s) (h1 : ∀ x, (f x).all (·.oneCell') = true) (ho' : o ≤ xs.length) (hn : xs.length = n) (hnc : n ≤ c)
    (ho : ops[i]? = some ⟨some d, .call ⟨.builtin .copy, #[x, y], #[t, t']⟩, ty, pos, af, g⟩) (hg : gdB ops E g = true) (hd : Nat.ble (d + 1) C.n = true)
    (hx : ev E x = some (.slice (lowB (some ⟨b, 0, none⟩) o c s) (n - o) (c - o))) (hy : ev E y = some (.slice base m cy)) (ht : sliceT C.P t = some e) (hs : sizeT C.P e = some s)
    (hT : Take (some b, .cells (arr f xs j).toArray e (0, 0)) H R) (hsrc : ∀ w, Inv C.w0 C.M w H → RS w [] f s base m cy ys)
    (kk : TO C ops Q l ((d, .int .i64 ((min (xs.drop o).length ys.length : Nat) : Int)) :: E) ((some b, .cells (arr f (xs.take o ++ cpy (xs.drop o) ys) j).toArray e (0, 0)) :: R)) : TO C ops Q (i :: l) E H := by
  refine TO.gen ho hg (by simp) fun a w hfit hi => ?_
  have hr := hsrc w hi
  have hm := hr.len
  have hrun : (execOp a.eval ⟨some d, .call ⟨.builtin .copy, #[x, y], #[t, t']⟩, ty, pos, af, g⟩).run C.P w = ((Builtin.copy_ #[t, t'] ty #[.slice (lowB (some ⟨b, 0, none⟩) o c s) (n - o) (c - o), .slice base m cy]).run C.P w).andThen fun v w' => .ok (.value v) w' := by
    simp [execOp, resolve, invoke, builtin, hfit.ev hx, hfit.ev hy]
  rw [hrun]
  have htk := (hr.ro.take (m := min m (n - o)) (Nat.min_le_left _ _)).first (P := C.P) (w := w) cy
  have hfc : (Builtin.firstCells s (min m (n - o)) (.slice base m cy)).run C.P w = .ok ((ys.take (min m (n - o))).flatMap f).toArray w := by
    have : (Builtin.firstCells s (min m (n - o)) (.slice base m cy)).run C.P w = (Builtin.firstCells s (min m (n - o)) (.slice base (min m (n - o)) cy)).run C.P w := by cases base <;> rfl
    rw [this]; exact htk
  have emin : min m (n - o) = min (xs.drop o).length ys.length := by rw [List.length_drop, hn, hm, Nat.min_comm]
  have etk : ys.take (min m (n - o)) = ys.take (xs.length - o) := by
    rw [hn]
    by_cases h : n - o ≤ m
    · rw [Nat.min_eq_right h]
    · rw [Nat.min_eq_left (by omega), List.take_of_length_le (by omega), List.take_of_length_le (by omega)]
  rw [etk] at hfc
  have hb := hi.own b _ hT.mem
  have hvl : ((ys.take (xs.length - o)).flatMap f).length ≤ (xs.length - o) * s := by
    rw [length_flat hf, List.length_take]
    exact Nat.mul_le_mul_right s (Nat.min_le_left _ _)
  have hall : ∀ u, u ∈ (ys.take (xs.length - o)).flatMap f → u.oneCell' = true := by
    intro u hu
    obtain ⟨z, _, hz⟩ := List.mem_flatMap.1 hu
    exact List.all_eq_true.1 (h1 z) u hz
  have hfit2 : o * s + ((ys.take (xs.length - o)).flatMap f).length ≤ (arr f xs j).toArray.size := by
    simp only [List.size_toArray, arr, List.length_append, length_flat hf xs]
    have : o * s + (xs.length - o) * s = xs.length * s := by rw [← Nat.add_mul]; congr 1; omega
    omega
  have hcc := copy_part hf xs ys j o ho'
  have hrun2 : (Builtin.copy_ #[t, t'] ty #[.slice (lowB (some ⟨b, 0, none⟩) o c s) (n - o) (c - o), .slice base m cy]).run C.P w = .ok (goInt (min m (n - o) : Nat)) (w.setRow b (arr f (xs.take o ++ cpy (xs.drop o) ys) j).toArray) := by
    have hfc2 := hfc
    simp only [Nat.min_def] at hfc2
    by_cases hco : c = o
    · have hno : n - o = 0 := by omega
      have h0 : (ys.take (xs.length - o)).flatMap f = [] := by rw [show xs.length - o = 0 by omega]; rfl
      have hst := run_storeCells_at C.P b 0 e [] 0 (arr f xs j).toArray w hb (by simp) (by simp)
      simp only [Nat.add_zero, List.take_zero, List.nil_append, List.length_nil, List.drop_zero] at hst
      rw [h0] at hfc2 hcc
      simp only [List.append_nil, List.length_nil, Nat.add_zero, List.take_append_drop] at hcc
      rw [← hcc]
      simp [Builtin.copy_, run_underlying (sliceT_eq ht), Builtin.lenOf, run_sizeT hs, Nat.min_def, hfc2, lowB, hco, hst]
    · have hst := run_storeCells_at C.P b (o * s) e ((ys.take (xs.length - o)).flatMap f) 0 (arr f xs j).toArray w hb (by simpa using hfit2) hall
      simp only [Nat.add_zero] at hst
      rw [hcc] at hst
      simp [Builtin.copy_, run_underlying (sliceT_eq ht), Builtin.lenOf, run_sizeT hs, Nat.min_def, hfc2, lowB, hco, Addr.add_mid, hst]
  rw [hrun2]
  simp only [Result.andThen_ok]
  refine kk _ _ ?_ ?_
  · have := hfit.put hd (goInt (min m (n - o) : Nat)); rw [emin] at this ⊢; exact this
  · exact hi.setRow hT
end rules
end Go.Acq
