/- The layer of triples: memory, slices, calls, results. -/
import Derived.Test.YtcdbemdogkmahaaAcqOps
namespace Go.Acq
open Go Go.RowKit
section rules
variable {C : Cx} {ops : Array Oper} {Q : Exit → Act → World → Prop} {l : List Nat} {E : Env} {H R : Heap} {i d : Nat} {ty : TypeId} {pos : String} {af : Array Edge} {g : Option (Nat × Bool)}

theorem T.regionL {id : Nat} {ll : List Nat} (hl : List.range ops.size = ll) (h : TO C ops Q ll E H) : T C (.region id ops false) Q E H := T.region (by rw [hl]; exact h)

/-! ### loads -/
theorem TO.load {t : TypeId} {x : Operand} {ad : Addr} {v : Value} (ho : ops[i]? = some ⟨some d, .load t x, ty, pos, af, g⟩) (hg : gdB ops E g = true) (hd : Nat.ble (d + 1) C.n = true)
    (hx : ev E x = some (.pointer (some ad))) (hT : scalT C.P t = true) (hc : ∀ w, Inv C.w0 C.M w H → w.cell? ad = some v)
    (kk : TO C ops Q l ((d, v) :: E) H) : TO C ops Q (i :: l) E H :=
  TO.val ho hg hd (by simp) (fun a w hf hi => by simp [execOp, hf.ev hx, Instr.loadAt, Instr.sureAddr, run_loadVar_scal hT (hc w hi)]) kk
/-- one cell of a block of ours -/
theorem TO.load1 {t T' : TypeId} {x : Operand} {b o : Nat} {cs : Array Value} {fr : Nat × Nat} {v : Value} (ho : ops[i]? = some ⟨some d, .load t x, ty, pos, af, g⟩) (hg : gdB ops E g = true) (hd : Nat.ble (d + 1) C.n = true)
    (hx : ev E x = some (.pointer (some ⟨b, o, none⟩))) (hT : scalT C.P t = true) (hm : (some b, Obj.cells cs T' fr) ∈ H) (hv : cs[o]? = some v)
    (kk : TO C ops Q l ((d, v) :: E) H) : TO C ops Q (i :: l) E H :=
  TO.load ho hg hd hx hT (fun w hi => by rw [hi.cell_own hm]; exact hv) kk
theorem TO.loadS {t : TypeId} {x : Operand} {ad : Addr} {k : Nat} {cs : List Value} (ho : ops[i]? = some ⟨some d, .load t x, ty, pos, af, g⟩) (hg : gdB ops E g = true) (hd : Nat.ble (d + 1) C.n = true)
    (hx : ev E x = some (.pointer (some ad))) (hT : aggT C.P t k = true) (hk : cs.length = k) (hc : ∀ w, Inv C.w0 C.M w H → ∀ j v, cs[j]? = some v → w.cell? (ad.add j) = some v)
    (kk : TO C ops Q l ((d, .agg cs.toArray) :: E) H) : TO C ops Q (i :: l) E H :=
  TO.val ho hg hd (by simp) (fun a w hf hi => by simp [execOp, hf.ev hx, Instr.loadAt, Instr.sureAddr, run_loadVar_agg hT hk (hc w hi)]) kk
/-- a whole block of ours -/
theorem TO.loadA {t T' : TypeId} {x : Operand} {b k : Nat} {cs : List Value} {fr : Nat × Nat} (ho : ops[i]? = some ⟨some d, .load t x, ty, pos, af, g⟩) (hg : gdB ops E g = true) (hd : Nat.ble (d + 1) C.n = true)
    (hx : ev E x = some (.pointer (some ⟨b, 0, none⟩))) (hT : aggT C.P t k = true) (hm : (some b, Obj.cells cs.toArray T' fr) ∈ H) (hk : cs.length = k)
    (kk : TO C ops Q l ((d, .agg cs.toArray) :: E) H) : TO C ops Q (i :: l) E H :=
  TO.loadS ho hg hd hx hT hk (fun w hi j v hv => by rw [Addr.add_mid, Nat.zero_add, hi.cell_own hm]; simpa using hv) kk

/-! ### stores -/
theorem TO.storeRow {t T' : TypeId} {x y : Operand} {b o : Nat} {cs cs' : Array Value} {v : Value} {vs : List Value} (ho : ops[i]? = some ⟨none, .store t x y, ty, pos, af, g⟩) (hg : gdB ops E g = true)
    (hx : ev E x = some (.pointer (some ⟨b, o, none⟩))) (hy : ev E y = some v) (ht : Take (some b, .cells cs T' (0, 0)) H R)
    (hv : v.cells.toList = vs) (hs : sizeT C.P t = some vs.length) (h1 : ∀ u, u ∈ vs → u.oneCell' = true) (hfit : o + vs.length ≤ cs.size)
    (hcs : (cs.toList.take o ++ vs ++ cs.toList.drop (o + vs.length)).toArray = cs')
    (kk : TO C ops Q l E ((some b, .cells cs' T' (0, 0)) :: R)) : TO C ops Q (i :: l) E H :=
  TO.gen ho hg (by simp) fun a w hf hi => by
    have hb := hi.own _ _ ht.mem
    have hst := run_storeCells_at C.P b o T' vs 0 cs w hb (by simpa using hfit) h1
    simp only [Nat.add_zero] at hst
    rw [hcs] at hst
    have hsz : v.cells.size = vs.length := by rw [← hv, Array.length_toList]
    have : (execOp a.eval ⟨none, .store t x y, ty, pos, af, g⟩).run C.P w = .ok .skip (w.setRow b cs') := by
      simp [execOp, hf.ev hx, hf.ev hy, Instr.storeAt, Instr.sureAddr, storeVar, run_sizeT hs, hsz, hv, hst]
    rw [this]
    exact kk _ _ (hf.putNone _) (hi.setRow ht)
theorem take_set_drop {α : Type} (xs : List α) (o : Nat) (v : α) (h : o < xs.length) : xs.take o ++ [v] ++ xs.drop (o + 1) = xs.set o v := by
  rw [List.set_eq_take_append_cons_drop, if_pos h]; simp
/-- one cell of a block of ours -/
theorem TO.store1 {t T' : TypeId} {x y : Operand} {b o : Nat} {cs : Array Value} {v : Value} (ho : ops[i]? = some ⟨none, .store t x y, ty, pos, af, g⟩) (hg : gdB ops E g = true)
    (hx : ev E x = some (.pointer (some ⟨b, o, none⟩))) (hy : ev E y = some v) (ht : Take (some b, .cells cs T' (0, 0)) H R)
    (hs : sizeT C.P t = some 1) (h1 : v.oneCell' = true) (hfit : Nat.ble (o + 1) cs.size = true)
    (kk : TO C ops Q l E ((some b, .cells (cs.setIfInBounds o v) T' (0, 0)) :: R)) : TO C ops Q (i :: l) E H := by
  have hfit' : o < cs.size := Nat.le_of_ble_eq_true hfit
  have hc : v.cells = #[v] := by cases v <;> first | rfl | cases h1
  refine TO.storeRow (vs := [v]) ho hg hx hy ht (by rw [hc]) hs (fun u hu => by simp at hu; subst hu; exact h1) (by simp; omega) ?_ kk
  apply Array.ext'
  simp only [List.length_singleton]
  rw [take_set_drop cs.toList o v (by simpa using hfit')]
  simp
/-- a list's block -/
theorem TO.store1l {t T' : TypeId} {x y : Operand} {b o : Nat} {cs : List Value} {v : Value} (ho : ops[i]? = some ⟨none, .store t x y, ty, pos, af, g⟩) (hg : gdB ops E g = true)
    (hx : ev E x = some (.pointer (some ⟨b, o, none⟩))) (hy : ev E y = some v) (ht : Take (some b, .cells cs.toArray T' (0, 0)) H R)
    (hs : sizeT C.P t = some 1) (h1 : v.oneCell' = true) (hfit : Nat.ble (o + 1) cs.length = true)
    (kk : TO C ops Q l E ((some b, .cells (cs.set o v).toArray T' (0, 0)) :: R)) : TO C ops Q (i :: l) E H :=
  TO.store1 ho hg hx hy ht hs h1 (by simpa using hfit) (by simpa using kk)
theorem TO.store1n {t T' : TypeId} {x y : Operand} {b o : Nat} {cs cs' : List Value} {v : Value} (ho : ops[i]? = some ⟨none, .store t x y, ty, pos, af, g⟩) (hg : gdB ops E g = true)
    (hx : ev E x = some (.pointer (some ⟨b, o, none⟩))) (hy : ev E y = some v) (ht : Take (some b, .cells cs.toArray T' (0, 0)) H R)
    (hs : sizeT C.P t = some 1) (h1 : v.oneCell' = true) (hfit : Nat.ble (o + 1) cs.length = true) (hcs : cs.set o v = cs')
    (kk : TO C ops Q l E ((some b, .cells cs'.toArray T' (0, 0)) :: R)) : TO C ops Q (i :: l) E H :=
  TO.store1l ho hg hx hy ht hs h1 hfit (by rw [hcs]; exact kk)
/-- a whole block of ours -/
theorem TO.storeA {t T' : TypeId} {x y : Operand} {b k : Nat} {cs vs : List Value} (ho : ops[i]? = some ⟨none, .store t x y, ty, pos, af, g⟩) (hg : gdB ops E g = true)
    (hx : ev E x = some (.pointer (some ⟨b, 0, none⟩))) (hy : ev E y = some (.agg vs.toArray)) (ht : Take (some b, .cells cs.toArray T' (0, 0)) H R)
    (hs : sizeT C.P t = some k) (hk : vs.length = k) (hl : cs.length = k) (h1 : vs.all (·.oneCell') = true)
    (kk : TO C ops Q l E ((some b, .cells vs.toArray T' (0, 0)) :: R)) : TO C ops Q (i :: l) E H :=
  TO.storeRow (vs := vs) ho hg hx hy ht (by simp [Value.cells]) (by rw [hk]; exact hs) (fun u hu => List.all_eq_true.1 h1 u hu) (by simp; omega) (by
    simp [List.drop_eq_nil_of_le (show cs.length ≤ vs.length by omega)]) kk

/-! ### rows of elements -/
/-- the cells of a row's elements, and what lies behind them -/
abbrev arr {α : Type} (f : α → List Value) (xs : List α) (j : List Value) : List Value := xs.flatMap f ++ j
abbrev intC (k : IntKind) (x : Int) : List Value := [.int k x]
abbrev boolC (b : Bool) : List Value := [.bool b]

theorem length_flat {α : Type} {f : α → List Value} {s : Nat} (hf : ∀ x, (f x).length = s) : ∀ xs : List α, (xs.flatMap f).length = xs.length * s
  | [] => by simp
  | x :: xs => by rw [List.flatMap_cons, List.length_append, hf, length_flat hf xs, List.length_cons, Nat.add_mul]; omega
theorem get_flat {α : Type} {f : α → List Value} {s : Nat} (hf : ∀ x, (f x).length = s) (dflt : α) : ∀ (xs : List α) (o c : Nat), o < xs.length → c < s → (xs.flatMap f)[o * s + c]? = (f (xs.getD o dflt))[c]?
  | [], o, c, h, _ => by simp at h
  | x :: xs, 0, c, _, hc => by
    rw [List.flatMap_cons, Nat.zero_mul, Nat.zero_add, List.getElem?_append_left (by rw [hf]; exact hc)]
    rfl
  | x :: xs, o + 1, c, h, hc => by
    rw [List.flatMap_cons, List.getElem?_append_right (by rw [hf, Nat.add_mul]; omega), hf]
    have : (o + 1) * s + c - s = o * s + c := by rw [Nat.add_mul]; omega
    rw [this, get_flat hf dflt xs o c (by simpa using h) hc]
    rfl
theorem get_arr {α : Type} {f : α → List Value} {s : Nat} (hf : ∀ x, (f x).length = s) (dflt : α) (xs : List α) (j : List Value) (o c : Nat) (h : o < xs.length) (hc : c < s) :
    (arr f xs j)[o * s + c]? = (f (xs.getD o dflt))[c]? := by
  unfold arr
  rw [List.getElem?_append_left, get_flat hf dflt xs o c h hc]
  rw [length_flat hf]
  have : (o + 1) * s ≤ xs.length * s := Nat.mul_le_mul_right s h
  rw [Nat.add_mul] at this
  omega
theorem set_arr {α : Type} {f : α → List Value} {s : Nat} (hf : ∀ x, (f x).length = s) (v : α) (j : List Value) : ∀ (xs : List α) (o : Nat), o < xs.length →
    (arr f xs j).take (o * s) ++ f v ++ (arr f xs j).drop (o * s + (f v).length) = arr f (xs.set o v) j
  | [], o, h => by simp at h
  | x :: xs, 0, _ => by
    simp only [arr, List.flatMap_cons, Nat.zero_mul, List.take_zero, List.nil_append, Nat.zero_add, List.set_cons_zero, List.append_assoc]
    rw [hf, ← hf x, List.drop_left]
  | x :: xs, o + 1, h => by
    have ih := set_arr hf v j xs o (by simpa using h)
    simp only [arr, List.flatMap_cons, List.append_assoc, List.set_cons_succ] at ih ⊢
    rw [← ih]
    have e : (o + 1) * s = (f x).length + o * s := by rw [hf, Nat.add_mul]; omega
    rw [e, List.take_length_add_append, Nat.add_assoc, List.drop_length_add_append]
    simp [List.append_assoc]

/-- an element of one cell: an integer -/
theorem TO.ldI {t T' : TypeId} {x : Operand} {b o : Nat} {k : IntKind} {xs : List Int} {j : List Value} {fr : Nat × Nat} (ho : ops[i]? = some ⟨some d, .load t x, ty, pos, af, g⟩) (hg : gdB ops E g = true) (hd : Nat.ble (d + 1) C.n = true)
    (hx : ev E x = some (.pointer (some ⟨b, o, none⟩))) (hT : scalT C.P t = true) (hm : (some b, Obj.cells (arr (intC k) xs j).toArray T' fr) ∈ H) (hv : o < xs.length)
    (kk : TO C ops Q l ((d, .int k (xs.getD o 0)) :: E) H) : TO C ops Q (i :: l) E H :=
  TO.load1 ho hg hd hx hT hm (by
    have := get_arr (f := intC k) (s := 1) (fun _ => rfl) 0 xs j o 0 hv (by omega)
    simpa using this) kk
theorem TO.ldB {t T' : TypeId} {x : Operand} {b o : Nat} {xs : List Bool} {j : List Value} {fr : Nat × Nat} (ho : ops[i]? = some ⟨some d, .load t x, ty, pos, af, g⟩) (hg : gdB ops E g = true) (hd : Nat.ble (d + 1) C.n = true)
    (hx : ev E x = some (.pointer (some ⟨b, o, none⟩))) (hT : scalT C.P t = true) (hm : (some b, Obj.cells (arr boolC xs j).toArray T' fr) ∈ H) (hv : o < xs.length)
    (kk : TO C ops Q l ((d, .bool (xs.getD o false)) :: E) H) : TO C ops Q (i :: l) E H :=
  TO.load1 ho hg hd hx hT hm (by
    have := get_arr (f := boolC) (s := 1) (fun _ => rfl) false xs j o 0 hv (by omega)
    simpa using this) kk
/-- an element of several cells -/
theorem TO.ldS {α : Type} {f : α → List Value} {s : Nat} {t T' : TypeId} {x : Operand} {b o : Nat} {xs : List α} {j : List Value} {fr : Nat × Nat} (dflt : α) (hf : ∀ x, (f x).length = s)
    (ho : ops[i]? = some ⟨some d, .load t x, ty, pos, af, g⟩) (hg : gdB ops E g = true) (hd : Nat.ble (d + 1) C.n = true)
    (hx : ev E x = some (.pointer (some ⟨b, o * s, none⟩))) (hT : aggT C.P t s = true) (hm : (some b, Obj.cells (arr f xs j).toArray T' fr) ∈ H) (hv : o < xs.length)
    (kk : TO C ops Q l ((d, .agg (f (xs.getD o dflt)).toArray) :: E) H) : TO C ops Q (i :: l) E H :=
  TO.loadS ho hg hd hx hT (hf _) (fun w hi c v hc => by
    rw [Addr.add_mid, hi.cell_own hm]
    have hcs : c < s := by rw [← hf (xs.getD o dflt)]; exact (List.getElem?_eq_some_iff.1 hc).1
    have := get_arr hf dflt xs j o c hv hcs
    rw [List.getElem?_toArray, this]
    exact hc) kk
theorem TO.stI {t T' : TypeId} {x y : Operand} {b o : Nat} {k : IntKind} {v : Int} {xs : List Int} {j : List Value} (ho : ops[i]? = some ⟨none, .store t x y, ty, pos, af, g⟩) (hg : gdB ops E g = true)
    (hx : ev E x = some (.pointer (some ⟨b, o, none⟩))) (hy : ev E y = some (.int k v)) (ht : Take (some b, .cells (arr (intC k) xs j).toArray T' (0, 0)) H R)
    (hs : sizeT C.P t = some 1) (hv : o < xs.length)
    (kk : TO C ops Q l E ((some b, .cells (arr (intC k) (xs.set o v) j).toArray T' (0, 0)) :: R)) : TO C ops Q (i :: l) E H := by
  refine TO.storeRow (vs := [.int k v]) ho hg hx hy ht rfl hs (fun u hu => by simp at hu; subst hu; rfl) (by simp [length_flat (f := intC k) (s := 1) (fun _ => rfl)]; omega) ?_ kk
  have := set_arr (f := intC k) (s := 1) (fun _ => rfl) v j xs o hv
  simpa using this
theorem TO.stB {t T' : TypeId} {x y : Operand} {b o : Nat} {v : Bool} {xs : List Bool} {j : List Value} (ho : ops[i]? = some ⟨none, .store t x y, ty, pos, af, g⟩) (hg : gdB ops E g = true)
    (hx : ev E x = some (.pointer (some ⟨b, o, none⟩))) (hy : ev E y = some (.bool v)) (ht : Take (some b, .cells (arr boolC xs j).toArray T' (0, 0)) H R)
    (hs : sizeT C.P t = some 1) (hv : o < xs.length)
    (kk : TO C ops Q l E ((some b, .cells (arr boolC (xs.set o v) j).toArray T' (0, 0)) :: R)) : TO C ops Q (i :: l) E H := by
  refine TO.storeRow (vs := [.bool v]) ho hg hx hy ht rfl hs (fun u hu => by simp at hu; subst hu; rfl) (by simp [length_flat (f := boolC) (s := 1) (fun _ => rfl)]; omega) ?_ kk
  have := set_arr (f := boolC) (s := 1) (fun _ => rfl) v j xs o hv
  simpa using this
theorem TO.stS {α : Type} {f : α → List Value} {s : Nat} {t T' : TypeId} {x y : Operand} {b o : Nat} {v : α} {xs : List α} {j : List Value} (hf : ∀ x, (f x).length = s) (h1 : ∀ x, (f x).all (·.oneCell') = true)
    (ho : ops[i]? = some ⟨none, .store t x y, ty, pos, af, g⟩) (hg : gdB ops E g = true)
    (hx : ev E x = some (.pointer (some ⟨b, o * s, none⟩))) (hy : ev E y = some (.agg (f v).toArray)) (ht : Take (some b, .cells (arr f xs j).toArray T' (0, 0)) H R)
    (hs : sizeT C.P t = some s) (hv : o < xs.length)
    (kk : TO C ops Q l E ((some b, .cells (arr f (xs.set o v) j).toArray T' (0, 0)) :: R)) : TO C ops Q (i :: l) E H := by
  refine TO.storeRow (vs := f v) ho hg hx hy ht (by simp [Value.cells]) (by rw [hf]; exact hs) (fun u hu => List.all_eq_true.1 (h1 v) u hu) ?_ ?_ kk
  · rw [hf]
    simp only [List.size_toArray, arr, List.length_append, length_flat hf]
    have : (o + 1) * s ≤ xs.length * s := Nat.mul_le_mul_right s hv
    rw [Nat.add_mul] at this
    omega
  · exact congrArg List.toArray (set_arr hf v j xs o hv)

/-! ### indexing -/
/-- the address of the cell n behind a slice's begin -/
def ea (base : Option Addr) (n : Nat) : Addr := (base.getD ⟨0, 0, none⟩).add n

theorem TO.indexR {t e : TypeId} {x y : Operand} {base : Option Addr} {n c s : Nat} {k : IntKind} {p : Int} (ho : ops[i]? = some ⟨some d, .indexAddr t x y, ty, pos, af, g⟩) (hg : gdB ops E g = true) (hd : Nat.ble (d + 1) C.n = true)
    (hx : ev E x = some (.slice base n c)) (hy : ev E y = some (.int k p)) (ht : sliceT C.P t = some e) (hs : sizeT C.P e = some s) (hb : base = none → n = 0) (h0 : 0 ≤ p) (h1 : p < n)
    (kk : TO C ops Q l ((d, .pointer (some (ea base (p.toNat * s)))) :: E) H) : TO C ops Q (i :: l) E H :=
  TO.val ho hg hd (by simp) (fun a w hf hi => by
    cases base with
    | none => exact absurd h1 (by simp [hb rfl]; omega)
    | some b =>
      have hu := sliceT_eq ht
      simp [execOp, hf.ev hx, hf.ev hy, Instr.indexAt, asIntOf, run_underlying hu, h0, h1, run_sizeT hs, ea]) kk
theorem TO.index {t e : TypeId} {x y : Operand} {b o n c s : Nat} {k : IntKind} {p : Int} (ho : ops[i]? = some ⟨some d, .indexAddr t x y, ty, pos, af, g⟩) (hg : gdB ops E g = true) (hd : Nat.ble (d + 1) C.n = true)
    (hx : ev E x = some (.slice (some ⟨b, o, none⟩) n c)) (hy : ev E y = some (.int k p)) (ht : sliceT C.P t = some e) (hs : sizeT C.P e = some s) (h0 : 0 ≤ p) (h1 : p < n)
    (kk : TO C ops Q l ((d, .pointer (some ⟨b, o + p.toNat * s, none⟩)) :: E) H) : TO C ops Q (i :: l) E H :=
  TO.indexR ho hg hd hx hy ht hs (by simp) h0 h1 (by simpa [ea, Addr.add_mid] using kk)
theorem TO.index0 {t e : TypeId} {x y : Operand} {b n c s : Nat} {k : IntKind} {p : Int} (ho : ops[i]? = some ⟨some d, .indexAddr t x y, ty, pos, af, g⟩) (hg : gdB ops E g = true) (hd : Nat.ble (d + 1) C.n = true)
    (hx : ev E x = some (.slice (some ⟨b, 0, none⟩) n c)) (hy : ev E y = some (.int k p)) (ht : sliceT C.P t = some e) (hs : sizeT C.P e = some s) (h0 : 0 ≤ p) (h1 : p < n)
    (kk : TO C ops Q l ((d, .pointer (some ⟨b, p.toNat * s, none⟩)) :: E) H) : TO C ops Q (i :: l) E H :=
  TO.index ho hg hd hx hy ht hs h0 h1 (by rw [Nat.zero_add]; exact kk)
theorem TO.index1 {t e : TypeId} {x y : Operand} {b n c : Nat} {k : IntKind} {p : Int} (ho : ops[i]? = some ⟨some d, .indexAddr t x y, ty, pos, af, g⟩) (hg : gdB ops E g = true) (hd : Nat.ble (d + 1) C.n = true)
    (hx : ev E x = some (.slice (some ⟨b, 0, none⟩) n c)) (hy : ev E y = some (.int k p)) (ht : sliceT C.P t = some e) (hs : sizeT C.P e = some 1) (h0 : 0 ≤ p) (h1 : p < n)
    (kk : TO C ops Q l ((d, .pointer (some ⟨b, p.toNat, none⟩)) :: E) H) : TO C ops Q (i :: l) E H :=
  TO.index0 ho hg hd hx hy ht hs h0 h1 (by rw [Nat.mul_one]; exact kk)

/-- x[:h] -/
theorem TO.sliceTo {t e : TypeId} {x y : Operand} {base : Option Addr} {n c s : Nat} {k : IntKind} {p : Int} (ho : ops[i]? = some ⟨some d, .slice t x none (some y) none, ty, pos, af, g⟩) (hg : gdB ops E g = true) (hd : Nat.ble (d + 1) C.n = true)
    (hx : ev E x = some (.slice base n c)) (hy : ev E y = some (.int k p)) (ht : sliceT C.P t = some e) (hs : sizeT C.P e = some s) (h0 : 0 ≤ p) (h1 : p ≤ c)
    (kk : TO C ops Q l ((d, .slice base p.toNat c) :: E) H) : TO C ops Q (i :: l) E H :=
  TO.val ho hg hd (by simp) (fun a w hf hi => by
    have hu := sliceT_eq ht
    have hb : ∀ b : Option Addr, Option.map (fun x => x.add 0) b = b := fun b => by cases b <;> simp [Addr.add]
    simp [execOp, hf.ev hx, hf.ev hy, Instr.sliceAt, Instr.slice, Instr.sliceBounds, Instr.sliceBound, asIntOf, run_underlying hu, h0, h1, run_sizeT hs, hb]) kk

/-- WHAT IS KNOWN OF A SLICE THAT IS ONLY READ: its n elements, s cells each -/
structure RO {α : Type} (w : World) (f : α → List Value) (s : Nat) (base : Option Addr) (n : Nat) (xs : List α) : Prop where
  len : xs.length = n
  nil : base = none → n = 0
  wide : ∀ x, (f x).length = s
  cell : ∀ o c, o < xs.length → c < s → ∀ x, xs[o]? = some x → w.cell? (ea base (o * s + c)) = (f x)[c]?

section ro
variable {α : Type} {w w0 : World} {f : α → List Value} {s n : Nat} {base : Option Addr} {xs : List α} {M : List Nat}
theorem RO.at (h : RO w f s base n xs) (dflt : α) {o c : Nat} (ho : o < xs.length) (hc : c < s) : w.cell? (ea base (o * s + c)) = (f (xs.getD o dflt))[c]? :=
  h.cell o c ho hc _ (by rw [List.getElem?_eq_getElem ho, List.getD_eq_getElem?_getD, List.getElem?_eq_getElem ho]; rfl)
theorem RO.mono (h : RO w0 f s base n xs) (hi : Inv w0 [] w H) : RO w f s base n xs :=
  ⟨h.len, h.nil, h.wide, fun o c ho hc x hx => by
    have h1 := h.cell o c ho hc x hx
    have hcl : c < (f x).length := by rw [h.wide]; exact hc
    rw [List.getElem?_eq_getElem hcl] at h1 ⊢
    exact hi.cell_old h1 (by simp)⟩
theorem RO.nil' (w : World) (hf : ∀ x, (f x).length = s) : RO w f s none 0 ([] : List α) := ⟨rfl, fun _ => rfl, hf, fun o c h => by simp at h⟩
/-- a block of ours, read -/
theorem Inv.ro (hi : Inv w0 M w H) (hf : ∀ x, (f x).length = s) {b : Nat} {T' : TypeId} {fr : Nat × Nat} {j : List Value} (hm : (some b, Obj.cells (arr f xs j).toArray T' fr) ∈ H) : RO w f s (some ⟨b, 0, none⟩) xs.length xs :=
  ⟨rfl, by simp, hf, fun o c ho hc x hx => by
    rw [show ea (some ⟨b, 0, none⟩) (o * s + c) = ⟨b, o * s + c, none⟩ by simp [ea, Addr.add_mid], hi.cell_own hm, List.getElem?_toArray, get_arr hf x xs j o c ho hc]
    rw [List.getD_eq_getElem?_getD, hx]; rfl⟩
theorem RO.take (h : RO w f s base n xs) {m : Nat} (hm : m ≤ n) : RO w f s base m (xs.take m) :=
  ⟨by rw [List.length_take, h.len]; omega, fun hb => by have := h.nil hb; omega, h.wide, fun o c ho hc x hx => by
    have : o < m := by rw [List.length_take] at ho; omega
    rw [List.getElem?_take_of_lt this] at hx
    exact h.cell o c (by rw [List.length_take] at ho; omega) hc x hx⟩
end ro
theorem ea_add (base : Option Addr) (n m : Nat) : (ea base n).add m = ea base (n + m) := by
  unfold ea Addr.add
  by_cases h1 : n = 0
  · subst h1; simp
  · by_cases h2 : m = 0
    · subst h2; simp
    · rw [if_neg h2, if_neg h1, if_neg (show n + m ≠ 0 by omega)]
      simp [Nat.add_assoc]
/-! ### slices that are made -/
theorem madeCells_eq (z : Value) (n : Nat) : madeCells #[z] n = (List.replicate n z).toArray := by
  unfold madeCells
  apply Array.ext'
  simp only [Array.toList_map]
  rw [List.eq_replicate_iff]
  refine ⟨by simp, fun u hu => ?_⟩
  simp only [List.mem_map] at hu
  obtain ⟨q, _, rfl⟩ := hu
  simp [Nat.mod_one]
theorem TO.makeSlice {t e : TypeId} {x y : Operand} {k k' : IntKind} {p : Int} {z : Value} {by' : Nat} (ho : ops[i]? = some ⟨some d, .makeSlice t x y, ty, pos, af, g⟩) (hg : gdB ops E g = true) (hd : Nat.ble (d + 1) C.n = true)
    (hx : ev E x = some (.int k p)) (hy : ev E y = some (.int k' p)) (ht : sliceT C.P t = some e) (hs : sizeT C.P e = some 1) (hz : zeroT C.P e = some z) (hz1 : z.cells = #[z]) (hb : bytesT C.P e = some by')
    (h0 : 0 ≤ p) (hroom : by' * p.toNat ≤ 281474976710656) (h63 : p ≤ 9223372036854775807)
    (kk : ∀ b, TO C ops Q l ((d, .slice (some ⟨b, 0, none⟩) p.toNat p.toNat) :: E) ((some b, .cells (List.replicate p.toNat z).toArray e (0, 0)) :: H)) : TO C ops Q (i :: l) E H := by
  obtain ⟨ti, hti, hsz⟩ := sizeT_eq hs
  have hz' : ti.zero = some z := by simpa [zeroT, hti] using hz
  have hb' : ti.bytes = by' := by simpa [bytesT, hti] using hb
  refine TO.new (fun b => .slice (some ⟨b, 0, none⟩) p.toNat p.toNat) ho hg hd (by simp) (fun a w hf hi => ?_) kk
  have hr := run_make (P := C.P) w t e ti z (sliceT_eq ht) hti hz' k k' p p h0 (Int.le_refl _) (by
    rw [hb']
    have : (p.toNat : Int) = p := Int.toNat_of_nonneg h0
    have h2 : ((by' * p.toNat : Nat) : Int) ≤ 281474976710656 := by omega
    rw [Int.natCast_mul, this] at h2
    exact h2) h63
  rw [hsz, Nat.mul_one, hz1, madeCells_eq] at hr
  simp [execOp, hf.ev hx, hf.ev hy, hr]
theorem replicate_int (n : Nat) (k : IntKind) : (List.replicate n (Value.int k 0)) = arr (intC k) (List.replicate n 0) [] := by
  induction n with
  | zero => rfl
  | succ n ih => simp only [List.replicate_succ, arr, List.flatMap_cons, List.append_nil, intC, List.singleton_append] at *; rw [← ih]
theorem replicate_bool (n : Nat) : (List.replicate n (Value.bool false)) = arr boolC (List.replicate n false) [] := by
  induction n with
  | zero => rfl
  | succ n ih => simp only [List.replicate_succ, arr, List.flatMap_cons, List.append_nil, boolC, List.singleton_append] at *; rw [← ih]
theorem TO.makeI {t e : TypeId} {x y : Operand} {k k' q : IntKind} {p : Int} {by' : Nat} (ho : ops[i]? = some ⟨some d, .makeSlice t x y, ty, pos, af, g⟩) (hg : gdB ops E g = true) (hd : Nat.ble (d + 1) C.n = true)
    (hx : ev E x = some (.int k p)) (hy : ev E y = some (.int k' p)) (ht : sliceT C.P t = some e) (hs : sizeT C.P e = some 1) (hz : zeroT C.P e = some (.int q 0)) (hb : bytesT C.P e = some by')
    (h0 : 0 ≤ p) (hroom : by' * p.toNat ≤ 281474976710656) (h63 : p ≤ 9223372036854775807)
    (kk : ∀ b, TO C ops Q l ((d, .slice (some ⟨b, 0, none⟩) p.toNat p.toNat) :: E) ((some b, .cells (arr (intC q) (List.replicate p.toNat 0) []).toArray e (0, 0)) :: H)) : TO C ops Q (i :: l) E H :=
  TO.makeSlice ho hg hd hx hy ht hs hz rfl hb h0 hroom h63 (fun b => by rw [replicate_int]; exact kk b)
theorem TO.makeB {t e : TypeId} {x y : Operand} {k k' : IntKind} {p : Int} {by' : Nat} (ho : ops[i]? = some ⟨some d, .makeSlice t x y, ty, pos, af, g⟩) (hg : gdB ops E g = true) (hd : Nat.ble (d + 1) C.n = true)
    (hx : ev E x = some (.int k p)) (hy : ev E y = some (.int k' p)) (ht : sliceT C.P t = some e) (hs : sizeT C.P e = some 1) (hz : zeroT C.P e = some (.bool false)) (hb : bytesT C.P e = some by')
    (h0 : 0 ≤ p) (hroom : by' * p.toNat ≤ 281474976710656) (h63 : p ≤ 9223372036854775807)
    (kk : ∀ b, TO C ops Q l ((d, .slice (some ⟨b, 0, none⟩) p.toNat p.toNat) :: E) ((some b, .cells (arr boolC (List.replicate p.toNat false) []).toArray e (0, 0)) :: H)) : TO C ops Q (i :: l) E H :=
  TO.makeSlice ho hg hd hx hy ht hs hz rfl hb h0 hroom h63 (fun b => by rw [replicate_bool]; exact kk b)
theorem TO.buildSlice {t e : TypeId} {n : Nat} {ps : Array (Nat × Operand)} {vs : List (Nat × Value)} {cs : Array Value} {z : Value} {s : Nat} (ho : ops[i]? = some ⟨some d, .buildSlice t n ps, ty, pos, af, g⟩) (hg : gdB ops E g = true) (hd : Nat.ble (d + 1) C.n = true)
    (hx : evp E ps.toList = some vs) (ht : sliceT C.P t = some e) (hs : sizeT C.P e = some s) (hz : zeroT C.P e = some z) (h24 : Nat.ble (n * s) (2 ^ 24) = true) (hp : Nat.ble 1 (n * s) = true)
    (hfill : Instr.fill (fun i => some (i * s, s)) ((Array.range (n * s)).map (z.cells[· % z.cells.size]!)) vs = some cs)
    (kk : ∀ b, TO C ops Q l ((d, .slice (some ⟨b, 0, none⟩) n n) :: E) ((some b, .cells cs e (0, 0)) :: H)) : TO C ops Q (i :: l) E H := by
  obtain ⟨ti, hti, hsz⟩ := sizeT_eq hs
  have hz' : ti.zero = some z := by simpa [zeroT, hti] using hz
  refine TO.new (fun b => .slice (some ⟨b, 0, none⟩) n n) ho hg hd (by simp) (fun a w hf hi => ?_) kk
  have e1 : (ps.map (fun p => (p.1, a.eval p.2))).toList = vs := by simpa using evp_eval hf hx
  have h24' := Nat.le_of_ble_eq_true h24
  have hp' := Nat.le_of_ble_eq_true hp
  have hr := run_buildSlice (P := C.P) w t e n (ps.map (fun p => (p.1, a.eval p.2))) cs ti z (sliceT_eq ht) hti hz' (by rw [hsz]; omega) (by rw [hsz]; omega) (by rw [e1, hsz]; exact hfill)
  simp [execOp, hr]
theorem TO.buildSliceS {t e : TypeId} {n : Nat} {ps : Array (Nat × Operand)} {vs : List (Nat × Value)} {cs : List Value} {z : Value} {s : Nat} (zs : List Value) (offs : List Nat) (ho : ops[i]? = some ⟨some d, .buildSlice t n ps, ty, pos, af, g⟩) (hg : gdB ops E g = true) (hd : Nat.ble (d + 1) C.n = true)
    (hx : evp E ps.toList = some vs) (ht : sliceT C.P t = some e) (hs : sizeT C.P e = some s) (hz : zeroT C.P e = some z) (h24 : Nat.ble (n * s) (2 ^ 24) = true) (hp : Nat.ble 1 (n * s) = true)
    (_hcs : setAll offs zs vs = cs)
    (hfill : Instr.fill (fun i => some (i * s, s)) ((Array.range (n * s)).map (z.cells[· % z.cells.size]!)) vs = some cs.toArray)
    (kk : ∀ b, TO C ops Q l ((d, .slice (some ⟨b, 0, none⟩) n n) :: E) ((some b, .cells cs.toArray e (0, 0)) :: H)) : TO C ops Q (i :: l) E H :=
  TO.buildSlice ho hg hd hx ht hs hz h24 hp hfill kk
/-- []T{} -/
theorem TO.buildNone {t e : TypeId} {s : Nat} (ho : ops[i]? = some ⟨some d, .buildSlice t 0 #[], ty, pos, af, g⟩) (hg : gdB ops E g = true) (hd : Nat.ble (d + 1) C.n = true)
    (ht : sliceT C.P t = some e) (hs : sizeT C.P e = some s)
    (kk : ∀ b, TO C ops Q l ((d, .slice (some ⟨b, 0, none⟩) 0 0) :: E) ((some b, .cells #[] e (0, 0)) :: H)) : TO C ops Q (i :: l) E H := by
  refine TO.new (fun b => .slice (some ⟨b, 0, none⟩) 0 0) ho hg hd (by simp) (fun a w hf hi => ?_) kk
  simp [execOp, Instr.buildSlice, run_underlying (sliceT_eq ht), run_sizeT hs, Instr.fill, newRow, Array.range_zero']

/-! ### builtin functions -/
theorem TO.len {t : TypeId} {at' : Array TypeId} {x : Operand} {e : TypeId} {base : Option Addr} {n c : Nat}
    (ho : ops[i]? = some ⟨some d, .call ⟨.builtin .len, #[x], at'⟩, ty, pos, af, g⟩) (hg : gdB ops E g = true) (hd : Nat.ble (d + 1) C.n = true) (hat : at'[0]? = some t)
    (hx : ev E x = some (.slice base n c)) (ht : sliceT C.P t = some e) (kk : TO C ops Q l ((d, .int .i64 n) :: E) H) : TO C ops Q (i :: l) E H :=
  TO.val ho hg hd (by simp) (fun a w hf _ => by
    simp [execOp, resolve, invoke, builtin, hf.ev hx, Builtin.len_, hat, run_underlying (sliceT_eq ht), goInt]) kk
theorem TO.min2 {at' : Array TypeId} {x y : Operand} {k : IntKind} {p q : Int}
    (ho : ops[i]? = some ⟨some d, .call ⟨.builtin .min, #[x, y], at'⟩, ty, pos, af, g⟩) (hg : gdB ops E g = true) (hd : Nat.ble (d + 1) C.n = true)
    (hx : ev E x = some (.int k p)) (hy : ev E y = some (.int k q)) (kk : TO C ops Q l ((d, .int k (min p q)) :: E) H) : TO C ops Q (i :: l) E H :=
  TO.val ho hg hd (by simp) (fun a w hf _ => by
    have : (if q < p then q else p) = min p q := by rw [Int.min_def]; split <;> split <;> omega
    simp [execOp, resolve, invoke, builtin, hf.ev hx, hf.ev hy, Builtin.min_, Builtin.min2, this]) kk
/-! ### calls -/
theorem TO.callGen {o : Oper} {f : FuncId} {args : Array Value} {M : List Nat} {Hm : Heap} {Post : Value → Heap → Prop}
    (ho : ops[i]? = some o) (hg : gdB ops E o.guard = true) (hdst : o.dst = some d) (hnd : ∀ c, o.op ≠ .defer c) (hd : Nat.ble (d + 1) C.n = true)
    (hrun : ∀ a w, Fits C.n C.D E a → Inv C.w0 C.M w H → (execOp a.eval o).run C.P w = .ok (.enter f args) w)
    (hH : List.Perm H (Hm ++ R)) (hM : ∀ m, m ∈ M → m ∈ Hm.filterMap (·.1))
    (hc : ∀ w, Inv C.w0 C.M w H → Fnc C.P f args w M Post)
    (kk : ∀ v N, Post v N → TO C ops Q l ((d, v) :: E) (N ++ R)) : TO C ops Q (i :: l) E H :=
  TO.gen ho hg hnd fun a w hf hi => by
    rw [hrun a w hf hi]
    refine ⟨by simp [FW], ?_⟩
    refine callsIn_FW.2 (Calls.mono (hc w hi) ?_)
    rintro e w' ⟨v, N, hP, rfl, hN⟩
    show wpOpsIn _ _ _ _ _ _ _ _
    rw [hdst]
    exact kk v N hP _ _ (hf.put hd v) (hi.join hH hM hN)

def callable (P : Program) (f : FuncId) : Bool :=
  match P.funcs[f]? with
  | some fn => fn.body.isSome && !(fn.name == "runtime.NumGoroutine")
  | none => false
theorem run_callFunc {P : Program} {f : FuncId} (h : callable P f = true) (args : Array Value) (w : World) : (callFunc f args).run P w = .ok (.enter f args) w := by
  unfold callable at h
  cases hf : P.funcs[f]? with
  | none => simp [hf] at h
  | some fn =>
    simp only [hf, Bool.and_eq_true, Bool.not_eq_true'] at h
    have h2 : ¬ fn.body = none := by cases hb : fn.body <;> simp_all
    have h3 : ¬ fn.name = "runtime.NumGoroutine" := by simpa using h.2
    simp [callFunc, hf, h3, h2]

/-- a function by its name, one that keeps all that was there -/
theorem TO.call {f : FuncId} {xs : Array Operand} {at' : Array TypeId} {vs : List Value} {Post : Value → Heap → Prop}
    (ho : ops[i]? = some ⟨some d, .call ⟨.value (.func f), xs, at'⟩, ty, pos, af, g⟩) (hg : gdB ops E g = true) (hd : Nat.ble (d + 1) C.n = true) (hF : callable C.P f = true)
    (hx : evs E xs.toList = some vs)
    (hc : ∀ w, Inv C.w0 C.M w H → Fnc C.P f vs.toArray w [] Post)
    (kk : ∀ v N, Post v N → TO C ops Q l ((d, v) :: E) (N ++ H)) : TO C ops Q (i :: l) E H :=
  TO.callGen (Hm := []) (R := H) ho hg rfl (by simp) hd (fun a w hf hi => by
    have e1 : xs.map a.eval = vs.toArray := by apply Array.ext'; simpa using evl_eval hf hx
    simp [execOp, resolve, Deferred.ofValue, invoke, Act.eval, e1, run_callFunc hF]) (List.Perm.refl _) (by simp) hc kk
/-- a closure -/
theorem TO.callV {f : FuncId} {x : Operand} {xs : Array Operand} {at' : Array TypeId} {vs : List Value} {fs cs : Array Value} {Post : Value → Heap → Prop}
    (ho : ops[i]? = some ⟨some d, .call ⟨.value x, xs, at'⟩, ty, pos, af, g⟩) (hg : gdB ops E g = true) (hd : Nat.ble (d + 1) C.n = true) (hF : callable C.P f = true)
    (hfv : ev E x = some (.func (.func f) fs cs)) (hx : evs E xs.toList = some vs)
    (hc : ∀ w, Inv C.w0 C.M w H → Fnc C.P f (fs ++ vs.toArray ++ cs) w [] Post)
    (kk : ∀ v N, Post v N → TO C ops Q l ((d, v) :: E) (N ++ H)) : TO C ops Q (i :: l) E H :=
  TO.callGen (Hm := []) (R := H) ho hg rfl (by simp) hd (fun a w hf hi => by
    have e1 : xs.map a.eval = vs.toArray := by apply Array.ext'; simpa using evl_eval hf hx
    simp [execOp, resolve, Deferred.ofValue, invoke, hf.ev hfv, e1, run_callFunc hF]) (List.Perm.refl _) (by simp) hc kk
/-- a closure that writes blocks of ours -/
theorem TO.callVM {f : FuncId} {x : Operand} {xs : Array Operand} {at' : Array TypeId} {vs : List Value} {fs cs : Array Value} {M : List Nat} {Hm : Heap} {Post : Value → Heap → Prop}
    (ho : ops[i]? = some ⟨some d, .call ⟨.value x, xs, at'⟩, ty, pos, af, g⟩) (hg : gdB ops E g = true) (hd : Nat.ble (d + 1) C.n = true) (hF : callable C.P f = true)
    (hfv : ev E x = some (.func (.func f) fs cs)) (hx : evs E xs.toList = some vs)
    (hH : List.Perm H (Hm ++ R)) (hM : ∀ m, m ∈ M → m ∈ Hm.filterMap (·.1))
    (hc : ∀ w, Inv C.w0 C.M w H → Fnc C.P f (fs ++ vs.toArray ++ cs) w M Post)
    (kk : ∀ v N, Post v N → TO C ops Q l ((d, v) :: E) (N ++ R)) : TO C ops Q (i :: l) E H :=
  TO.callGen ho hg rfl (by simp) hd (fun a w hf hi => by
    have e1 : xs.map a.eval = vs.toArray := by apply Array.ext'; simpa using evl_eval hf hx
    simp [execOp, resolve, Deferred.ofValue, invoke, hf.ev hfv, e1, run_callFunc hF]) hH hM hc kk
end rules
/-! ### a function's end and begin -/
section ends
variable {C : Cx} {E : Env} {H N : Heap}
def resSem (tmps : Array Value) : ResultVar → Sem Value
  | .tmp t => pure (tmps.getD t undef)
  | .cell x t => do loadVar t (← asAddr (tmps.getD x undef))
theorem results_eq (fn : Func) (tmps : Array Value) : results fn tmps = (do
    let vs ← fn.results.mapM (resSem tmps)
    pure (if h : vs.size = 1 then vs[0] else .tuple vs)) := by
  unfold results
  congr 2
/-- a result variable reads so -/
def Res (C : Cx) (E : Env) (H : Heap) (r : ResultVar) (v : Value) : Prop := ∀ a w, Fits C.n C.D E a → Inv C.w0 C.M w H → (resSem a.tmps r).run C.P w = .ok v w
theorem Res.tmp {t : Nat} {v : Value} (h : find E t = some v) : Res C E H (.tmp t) v := fun a w hf _ => by simp only [resSem, hf.get t v h]; rfl
theorem Res.cellA {x k : Nat} {t T' : TypeId} {b : Nat} {cs : List Value} {fr : Nat × Nat} (h : find E x = some (.pointer (some ⟨b, 0, none⟩))) (hT : aggT C.P t k = true) (hm : (some b, Obj.cells cs.toArray T' fr) ∈ H) (hk : cs.length = k) :
    Res C E H (.cell x t) (.agg cs.toArray) := fun a w hf hi => by
  have := run_loadVar_agg (P := C.P) (w := w) hT hk (a := ⟨b, 0, none⟩) (fun j v hv => by rw [Addr.add_mid, Nat.zero_add, hi.cell_own hm]; simpa using hv)
  simp only [resSem, hf.get x _ h, asAddr, Sem.run_bind, Sem.run_pure, Result.andThen_ok, this]
theorem Res.cell1 {x o : Nat} {t T' : TypeId} {b : Nat} {cs : Array Value} {fr : Nat × Nat} {v : Value} (h : find E x = some (.pointer (some ⟨b, o, none⟩))) (hT : scalT C.P t = true) (hm : (some b, Obj.cells cs T' fr) ∈ H) (hv : cs[o]? = some v) :
    Res C E H (.cell x t) v := fun a w hf hi => by
  have := run_loadVar_scal hT (show w.cell? ⟨b, o, none⟩ = some v by rw [hi.cell_own hm]; exact hv)
  simp only [resSem, hf.get x _ h, asAddr, Sem.run_bind, Sem.run_pure, Result.andThen_ok, this]

/-- one result is itself, several are a tuple -/
def packV : List Value → Value
  | [u] => u
  | vs => .tuple vs.toArray
theorem X.ret {fn : Func} {rs : List ResultVar} {vs : List Value} {v : Value} {w0 : World} {M : List Nat} {Post : Value → Heap → Prop} (hw : C.w0 = w0) (hMM : C.M = M) (hD : C.D = []) (hfn : fn.results.toList = rs)
    (hr : ∀ (j : Nat) r u, rs[j]? = some r → vs[j]? = some u → Res C E H r u) (hl : rs.length = vs.length) (hv : v = packV vs)
    (hN : Pick N H) (hP : Post v N) : X C (bodyPost C.P fn (FncR w0 M Post)) .ret E H := by
  intro a w hf hi
  refine ⟨hf.defers.trans hD, v, ?_, v, N, hP, rfl, by rw [← hw, ← hMM]; exact hi.pick hN⟩
  have key : ∀ (rs : List ResultVar) (vs : List Value), rs.length = vs.length → (∀ (j : Nat) r u, rs[j]? = some r → vs[j]? = some u → Res C E H r u) →
      (rs.mapM (resSem a.tmps)).run C.P w = .ok vs w := by
    intro rs
    induction rs with
    | nil => intro vs hl _; cases vs <;> simp_all
    | cons r rs ih =>
      intro vs hl h
      cases vs with
      | nil => simp at hl
      | cons u vs =>
        have h0 := h 0 r u rfl rfl a w hf hi
        have h1 := ih vs (by simpa using hl) (fun j r' u' hj hu => h (j + 1) r' u' (by simpa using hj) (by simpa using hu))
        simp only [List.mapM_cons, Sem.run_bind, h0, Result.andThen_ok, h1, Sem.run_pure]
  have := key rs vs hl hr
  rw [results_eq, ← Array.toArray_toList (xs := fn.results), hfn, List.mapM_toArray]
  simp only [Sem.run_bind, Sem.run_map, this, Result.andThen_ok, Sem.run_pure]
  rw [hv]
  cases vs with
  | nil => simp [packV]
  | cons u vs =>
    cases vs with
    | nil => simp [packV]
    | cons u' vs => simp [packV]
theorem X.ret1 {fn : Func} {r : ResultVar} {v : Value} {w0 : World} {M : List Nat} {Post : Value → Heap → Prop} (hw : C.w0 = w0) (hMM : C.M = M) (hD : C.D = []) (hfn : fn.results.toList = [r]) (hr : Res C E H r v) (hN : Pick N H) (hP : Post v N) :
    X C (bodyPost C.P fn (FncR w0 M Post)) .ret E H :=
  X.ret (vs := [v]) hw hMM hD hfn (fun j r' u h1 h2 => by
    cases j with
    | zero => simp at h1 h2; subst h1; subst h2; exact hr
    | succ j => simp at h1) rfl rfl hN hP
theorem X.ret2 {fn : Func} {r r' : ResultVar} {v v' : Value} {w0 : World} {M : List Nat} {Post : Value → Heap → Prop} (hw : C.w0 = w0) (hMM : C.M = M) (hD : C.D = []) (hfn : fn.results.toList = [r, r']) (hr : Res C E H r v) (hr' : Res C E H r' v') (hN : Pick N H) (hP : Post (.tuple #[v, v']) N) :
    X C (bodyPost C.P fn (FncR w0 M Post)) .ret E H :=
  X.ret (vs := [v, v']) hw hMM hD hfn (fun j r'' u h1 h2 => by
    match j with
    | 0 => simp at h1 h2; subst h1; subst h2; exact hr
    | 1 => simp at h1 h2; subst h1; subst h2; exact hr'
    | j + 2 => simp at h1) rfl rfl hN hP

/-- a function's begin: its arguments in its first slots -/
def enterE : Nat → List Value → Env
  | _, [] => []
  | k, v :: vs => (k, v) :: enterE (k + 1) vs
theorem find_enterE : ∀ (vs : List Value) (k t : Nat) (v : Value), find (enterE k vs) t = some v → k ≤ t ∧ vs[t - k]? = some v
  | [], k, t, v, h => by simp [enterE, find] at h
  | u :: vs, k, t, v, h => by
    simp only [enterE] at h
    rw [find_cons] at h
    by_cases e : k = t
    · subst e; rw [if_pos rfl] at h; simpa using h
    · rw [if_neg e] at h
      obtain ⟨h1, h2⟩ := find_enterE vs (k + 1) t v h
      refine ⟨by omega, ?_⟩
      have : t - k = (t - (k + 1)) + 1 := by omega
      rw [this]; simpa using h2
theorem Fnc.enter {P : Program} {f : FuncId} {fn : Func} {c : Code} {vs : List Value} {w : World} {M : List Nat} {H : Heap} {Post : Value → Heap → Prop}
    (hf : P.funcs[f]? = some fn) (hb : fn.body = some c) (hn : Nat.ble vs.length fn.ntmps = true) (hi : Inv w M w H)
    (h : T ⟨P, none, fn.ntmps, [], w, M⟩ c (bodyPost P fn (FncR w M Post)) (enterE 0 vs) H) : Fnc P f vs.toArray w M Post := by
  have hn' := Nat.le_of_ble_eq_true hn
  refine callsIn_FW (ρ := none) (n := 0) |>.1 (callsIn_of_wp hf hb trivial ?_ rfl)
  refine h _ w ⟨by simp; omega, rfl, fun t v hv => ?_⟩ hi
  obtain ⟨_, h2⟩ := find_enterE vs 0 t v hv
  rw [Nat.sub_zero] at h2
  have hlt := (List.getElem?_eq_some_iff.1 h2).1
  simp only [Array.getD_eq_getD_getElem?]
  rw [Array.getElem?_append_left (by simpa using hlt)]
  simp [h2]
end ends
end Go.Acq
