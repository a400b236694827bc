/- The layer of triples: append. -/
import Derived.Test.YtcdbemdogkmahaaAcqDraw
namespace Go.Acq
open Go Go.RowKit
/-- a slice's begin: at a block's head, or nil -/
abbrev sb (ob : Option Nat) : Option Addr := ob.map fun b => ⟨b, 0, none⟩

section
variable {α : Type} {w w0 : World} {f : α → List Value} {s n : Nat} {base : Option Addr} {xs : List α} {M : List Nat} {H : Heap}
theorem Inv.roO (hi : Inv w0 M w H) (hf : ∀ x, (f x).length = s) {ob : Option Nat} {T' : TypeId} {fr : Nat × Nat} {j : List Value} (hm : (ob, Obj.cells (arr f xs j).toArray T' fr) ∈ H) (hn : xs.length = n) (h0 : ob = none → n = 0) : RO w f s (sb ob) n xs := by
  cases ob with
  | none =>
    have := h0 rfl
    have hx : xs = [] := List.eq_nil_of_length_eq_zero (by omega)
    subst hx
    exact ⟨hn, fun _ => this, hf, fun o c h => by simp at h⟩
  | some b => rw [← hn]; exact hi.ro hf hm
theorem RO.cells (h : RO w f s base n xs) : ∀ (j : Nat) u, (xs.flatMap f)[j]? = some u → w.cell? (ea base j) = some u := by
  intro j u hj
  have hlt : j < (xs.flatMap f).length := (List.getElem?_eq_some_iff.1 hj).1
  rw [length_flat h.wide] at hlt
  have hs : 0 < s := by
    rcases Nat.eq_zero_or_pos s with e | e
    · subst e; simp at hlt
    · exact e
  have ho : j / s < xs.length := Nat.div_lt_of_lt_mul (by rw [Nat.mul_comm]; exact hlt)
  have hc : j % s < s := Nat.mod_lt _ hs
  have hjd : j / s * s + j % s = j := by rw [Nat.mul_comm]; exact Nat.div_add_mod j s
  have hx : xs[j / s]? = some xs[j / s] := List.getElem?_eq_getElem ho
  have h1 := h.cell (j / s) (j % s) ho hc _ hx
  rw [hjd] at h1
  rw [h1]
  have h2 := get_flat h.wide xs[j / s] xs (j / s) (j % s) ho hc
  rw [hjd, hj, List.getD_eq_getElem?_getD, hx] at h2
  exact h2.symm
theorem RO.src {P : Program} {t e' : TypeId} (h : RO w f s base n xs) (hk : P.underlying t = some (.slice e')) (h1 : ∀ x, (f x).all (·.oneCell') = true) (c : Nat) : Src P s t (.slice base n c) n (xs.flatMap f) w := by
  have hall : ∀ u, u ∈ xs.flatMap f → u.oneCell' = true := by
    intro u hu
    obtain ⟨x, _, hx⟩ := List.mem_flatMap.1 hu
    exact List.all_eq_true.1 (h1 x) u hx
  cases base with
  | none =>
    have hn := h.nil rfl
    have hx : xs = [] := List.eq_nil_of_length_eq_zero (by rw [h.len]; exact hn)
    subst hx; subst hn
    exact Src.ofNil w hk c
  | some a =>
    refine Src.ofSlice w hk a n c _ (by rw [length_flat h.wide, h.len]) (fun j u hj => ?_) hall
    have := h.cells j u hj
    simpa [ea] using this
theorem RO.drew (h : RO w f s base n xs) : RO w.drew f s base n xs := ⟨h.len, h.nil, h.wide, fun o c ho hc x hx => h.cell o c ho hc x hx⟩
theorem RO.first {P : Program} (h : RO w f s base n xs) (c : Nat) : (Builtin.firstCells s n (.slice base n c)).run P w = .ok (xs.flatMap f).toArray w := by
  cases base with
  | none =>
    have hn := h.nil rfl
    have hx : xs = [] := List.eq_nil_of_length_eq_zero (by rw [h.len]; exact hn)
    subst hx; subst hn
    exact run_firstCells_none w s 0 0 c
  | some a => exact run_firstCells_some w s n a n c _ (by rw [length_flat h.wide, h.len]) (fun j u hj => by have := h.cells j u hj; simpa [ea] using this)
end
section rules
variable {C : Cx} {ops : Array Oper} {Q : Exit → Act → World → Prop} {l : List Nat} {E : Env} {H R : Heap} {i d : Nat} {ty : TypeId} {pos : String} {af : Array Edge} {g : Option (Nat × Bool)}

theorem setCells_row {P : Program} {w : World} {b o : Nat} {T' : TypeId} {cs : Array Value} {vs : List Value} (hb : w.heap[b]? = some (.cells cs T' (0, 0))) (hfit : o + vs.length ≤ cs.size) (h1 : ∀ u, u ∈ vs → u.oneCell' = true) :
    w.setCells b o vs = w.setRow b (cs.toList.take o ++ vs ++ cs.toList.drop (o + vs.length)).toArray := by
  have h2 := run_storeCells_at P b o T' vs 0 cs w hb (by simpa using hfit) h1
  have h3 := run_storeCells_cells (P := P) b o vs 0 w (fun j hj => by
    simp only [Nat.add_zero, World.cell?, hb]
    simp; omega) (fun j hj => by simp [World.frozen?, hb]) h1
  simp only [Nat.add_zero] at h2 h3
  rw [h2] at h3
  injection h3 with _ h3
  exact h3.symm

/-- the facts on an element's type that append asks -/
structure ElemT (P : Program) (t e : TypeId) (s by' : Nat) (z : Value) : Prop where
  slice : sliceT P t = some e
  size : sizeT P e = some s
  bytes : bytesT P e = some by'
  zero : zeroT P e = some z
  zsize : z.cells.size = s

theorem TO.append {α : Type} {f : α → List Value} {s by' : Nat} {z : Value} {t e : TypeId} {x y : Operand} {ob : Option Nat} {base : Option Addr} {n c m cy : Nat} {xs ys : List α} {j : List Value}
    (hf : ∀ x, (f x).length = s) (h1 : ∀ x, (f x).all (·.oneCell') = true) (hT : ElemT C.P t e s by' z)
    (ho : ops[i]? = some ⟨some d, .call ⟨.builtin .append, #[x, y], #[t, t]⟩, ty, pos, af, g⟩) (hg : gdB ops E g = true) (hd : Nat.ble (d + 1) C.n = true)
    (hx : ev E x = some (.slice (sb ob) n c)) (hy : ev E y = some (.slice base m cy))
    (ht : Take (ob, .cells (arr f xs j).toArray e (0, 0)) H R) (hn : xs.length = n) (hnc : n ≤ c) (hj : j.length = (c - n) * s) (h0 : ob = none → c = 0)
    (hsrc : ∀ w, Inv C.w0 C.M w H → RO w f s base m ys) (hroom : (n + m) * by' ≤ 140737488355328) (hmax : n + m ≤ 4611686018427387904)
    (kk : ∀ (ob' : Option Nat) (c' : Nat) (j' : List Value), n + m ≤ c' → j'.length = (c' - (n + m)) * s → (ob' = none → c' = 0) → TO C ops Q l ((d, .slice (sb ob') (n + m) c') :: E) ((ob', .cells (arr f (xs ++ ys) j').toArray e (0, 0)) :: R)) :
    TO C ops Q (i :: l) E H := by
  refine TO.gen ho hg (by simp) fun a w hfit hi => ?_
  obtain ⟨ti, hti, hsz⟩ := sizeT_eq hT.size
  have hu := sliceT_eq hT.slice
  have hz' : ti.zero = some z := by have := hT.zero; simpa [zeroT, hti] using this
  have hb' : ti.bytes = by' := by have := hT.bytes; simpa [bytesT, hti] using this
  have hs := hsrc w hi
  have hro := hi.roO hf ht.mem hn (fun e => by have := h0 e; omega)
  have hexec : (execOp a.eval ⟨some d, .call ⟨.builtin .append, #[x, y], #[t, t]⟩, ty, pos, af, g⟩).run C.P w = ((Builtin.append_ #[t, t] ty #[.slice (sb ob) n c, .slice base m cy]).run C.P w).andThen fun v w' => .ok (.value v) w' := by
    simp [execOp, resolve, invoke, builtin, hfit.ev hx, hfit.ev hy]
  rw [hexec]
  by_cases hr : n + m ≤ c
  · cases ob with
    | none =>
      have := h0 rfl
      subst this
      have hm0 : m = 0 := by omega
      subst hm0
      have hys : ys = [] := List.eq_nil_of_length_eq_zero hs.len
      subst hys
      have : (Builtin.append_ #[t, t] ty #[.slice none n 0, .slice base 0 cy]).run C.P w = .ok (.slice none n 0) w := by
        have hl := (hs.src hu h1 cy).len w
        have hc := (hs.src hu h1 cy).cells
        have hn0 : n = 0 := by omega
        subst hn0
        simp only [List.flatMap_nil] at hc
        simp [Builtin.append_, run_underlying hu, sizeOf, typeInfo, hti, hl, hsz, hc]
      simp only [sb, Option.map_none, this, Result.andThen_ok]
      refine kk none 0 j (by omega) (by omega) (fun _ => rfl) _ _ (hfit.put hd _) ?_
      rw [List.append_nil]
      exact hi.perm ht
    | some b =>
      have hb := hi.own b _ ht.mem
      have hlen : (arr f xs j).length = c * s := by
        simp only [arr, List.length_append, length_flat hf, hj, hn]
        rw [← Nat.add_mul]; congr 1; omega
      have hnews : (ys.flatMap f).length = m * s := by rw [length_flat hf, hs.len]
      have hfit2 : n * s + (ys.flatMap f).length ≤ (arr f xs j).toArray.size := by
        rw [hnews, List.size_toArray, hlen, ← Nat.add_mul]; exact Nat.mul_le_mul_right s hr
      have hall := (hs.src hu h1 cy).one
      have hcell : ∀ q, q < (ys.flatMap f).length → (w.cell? ⟨b, 0 + n * ti.size + q, none⟩).isSome = true := fun q hq => by
        rw [hsz, Nat.zero_add, hi.cell_own ht.mem, Array.getElem?_eq_getElem (by omega)]; rfl
      have hr2 := run_append_room_src (P := C.P) w t t ty e ti hu hti b 0 n c (.slice base m cy) m (ys.flatMap f) (by rw [hsz]; exact hs.src hu h1 cy) hr hcell (fun q _ => hi.frozen_own ht.mem _)
      rw [hsz, Nat.zero_add, setCells_row (P := C.P) hb hfit2 hall] at hr2
      simp only [sb, Option.map_some, hr2, Result.andThen_ok]
      refine kk (some b) c (j.drop (m * s)) hr ?_ (by simp) _ _ (hfit.put hd _) ?_
      · rw [List.length_drop, hj, ← Nat.sub_mul]; congr 1; omega
      · have : ((arr f xs j).toArray.toList.take (n * s) ++ ys.flatMap f ++ (arr f xs j).toArray.toList.drop (n * s + (ys.flatMap f).length)).toArray = (arr f (xs ++ ys) (j.drop (m * s))).toArray := by
          have e1 : (xs.flatMap f).length = n * s := by rw [length_flat hf, hn]
          simp only [arr, List.flatMap_append]
          rw [hnews]
          congr 1
          rw [← e1, List.take_left', List.drop_append]
          · simp [e1, List.append_assoc, List.drop_eq_nil_of_le (show (xs.flatMap f).length ≤ n * s + m * s by omega)]
          · rfl
        rw [← this]
        exact hi.setRow ht
  · have hold : (Builtin.firstCells ti.size n (.slice (sb ob) n c)).run C.P w.drew = .ok (xs.flatMap f).toArray w.drew := by rw [hsz]; exact hro.drew.first c
    have hg2 := run_append_grow_src (P := C.P) w t t ty e ti z hu hti hz' (sb ob) n c (xs.flatMap f) hold (.slice base m cy) m (ys.flatMap f) (by rw [hsz]; exact hs.src hu h1 cy) (by omega) (by omega) (by
      rw [hb']; exact growslice_fits (by omega) hroom)
    simp only [hg2, Result.andThen_ok]
    have hcap : n + m ≤ grownCap w (n + m) c e := by unfold grownCap Question.cut; simp only; omega
    refine kk (some w.heap.size) (grownCap w (n + m) c e) (Builtin.zeroCells z.cells (grownCap w (n + m) c e - (n + m))).toList hcap (by rw [Array.length_toList, size_zeroCells, hT.zsize]) (by simp) _ _ (hfit.put hd _) ?_
    have e2 : ((xs.flatMap f ++ ys.flatMap f).toArray ++ Builtin.zeroCells z.cells (grownCap w (n + m) c e - (n + m))) = (arr f (xs ++ ys) (Builtin.zeroCells z.cells (grownCap w (n + m) c e - (n + m))).toList).toArray := by
      simp only [arr, List.flatMap_append]
      apply Array.ext'
      simp [List.append_assoc]
    rw [e2]
    have h3 := (hi.perm ht).drew.alloc (Obj.cells (arr f (xs ++ ys) (Builtin.zeroCells z.cells (grownCap w (n + m) c e - (n + m))).toList).toArray e (0, 0))
    exact h3.pick (Pick.of_perm (S := [(ob, .cells (arr f xs j).toArray e (0, 0))]) (by
      refine List.Perm.cons _ ?_
      exact (List.perm_append_comm (l₁ := [(ob, Obj.cells (arr f xs j).toArray e (0, 0))]) (l₂ := R))))
end rules
end Go.Acq
