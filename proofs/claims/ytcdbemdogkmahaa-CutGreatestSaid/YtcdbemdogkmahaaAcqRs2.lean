/- The layer of triples: parts of rows, copies, loops that are gone through one by one. -/
import Derived.Test.YtcdbemdogkmahaaAcqRs
namespace Go.Acq
open Go Go.RowKit
section control
variable {C : Cx} {Q : Exit → Act → World → Prop} {E : Env} {H : Heap} {c : Code}
/-- within a loop, ahead of a round -/
def RAt (C : Cx) (c : Code) (Q : Exit → Act → World → Prop) (a : Act) (w : World) : Prop :=
  ∀ (b : Frame) (k : List Item) (cs : List Frame), b.roundOf = (FW C.ρ).round → (FW C.ρ).fn b.fn → (FW C.ρ).room (cs.length + 1 + 0) →
    ∃ e a' w', Q e a' w' ∧ ArrivesIn (Machine.fenced C.P (FW C.ρ)) C.P (lone (b.atR a (.code c :: .inLoop c :: k)) cs w) b k cs e a' w'
def RT (C : Cx) (c : Code) (Q : Exit → Act → World → Prop) (E : Env) (H : Heap) : Prop := ∀ a w, Fits C.n C.D E a → Inv C.w0 C.M w H → RAt C c Q a w
theorem T.loopU (h : RT C c Q E H) : T C (.loop c) Q E H := by
  intro a w hf hi b k cs hro hb hr
  obtain ⟨e, a', w', hq, harr⟩ := h a w hf hi b k cs hro hb hr
  exact ⟨e, a', w', hq, .of_steps (.one (fenced_calm hb hr rfl) stepR_loop) harr⟩
theorem RT.round (h : T C c (Exit.then (RAt C c Q) Q) E H) : RT C c Q E H := by
  intro a w hf hi b k cs hro hb hr
  obtain ⟨e, a₁, w₁, hq, harr⟩ := h a w hf hi b (.inLoop c :: k) cs hro hb hr
  cases e with
  | normal =>
    obtain ⟨e₂, a₂, w₂, hq₂, harr₂⟩ := hq b k cs hro hb hr
    exact ⟨e₂, a₂, w₂, hq₂, .of_steps (StepsIn.trans harr (.one (fenced_calm hb hr rfl) stepR_inLoop)) harr₂⟩
  | exit id => exact ⟨_, a₁, w₁, hq, .pass (x := .inLoop c) rfl (fun _ _ => .inl (by simp)) harr⟩
  | goto l => exact ⟨_, a₁, w₁, hq, .pass (x := .inLoop c) rfl (fun _ _ => .inl (by simp)) harr⟩
  | ret => exact ⟨_, a₁, w₁, hq, .pass (x := .inLoop c) rfl (fun _ _ => .inl (by simp)) harr⟩
  | panic ch => exact ⟨_, a₁, w₁, hq, .pass (x := .inLoop c) rfl (fun _ _ => .inl (by simp)) harr⟩
  | outgrown => exact ⟨_, a₁, w₁, hq, .pass (x := .inLoop c) rfl (fun _ _ => .inl (by simp)) harr⟩
theorem X.round (h : RT C c Q E H) : X C (Exit.then (RAt C c Q) Q) .normal E H := h
end control
section
variable {α : Type} {w : World} {M : List Nat} {f : α → List Value} {s n c : Nat} {base : Option Addr} {xs : List α}
/-- the begin of x[l:] -/
def lowB (base : Option Addr) (l c s : Nat) : Option Addr := if c = l then base else base.map (·.add (l * s))
theorem RS.take (h : RS w M f s base n c xs) {p : Int} (hp : 0 ≤ p ∧ p ≤ (xs.length : Int)) : RS w M f s base p.toNat c (xs.take p.toNat) := by
  have hl := h.len
  have hm : p.toNat ≤ n := by omega
  exact ⟨h.ro.take hm, fun a ha h0 => h.far a ha (by omega), Nat.le_trans hm h.cap⟩
theorem ea_low (base : Option Addr) (l c s o : Nat) (hb : base ≠ none) (hc : c ≠ l) : ea (lowB base l c s) o = ea base (l * s + o) := by
  cases base with
  | none => exact absurd rfl hb
  | some a =>
    unfold lowB
    rw [if_neg hc]
    show (a.add (l * s)).add o = _
    exact ea_add (some a) (l * s) o
theorem RS.drop (h : RS w M f s base n c xs) {p : Int} (hp : 0 ≤ p ∧ p ≤ (xs.length : Int)) : RS w M f s (lowB base p.toNat c s) (n - p.toNat) (c - p.toNat) (xs.drop p.toNat) := by
  have hl := h.len
  have hc := h.cap
  refine ⟨⟨by rw [List.length_drop, hl], fun hb => ?_, h.ro.wide, fun o q ho hq x hx => ?_⟩, fun a ha h0 => ?_, by omega⟩
  · unfold lowB at hb
    split at hb
    · omega
    · have : base = none := by cases base <;> simp_all
      have := h.ro.nil this; omega
  · rw [List.length_drop] at ho
    have hcl : c ≠ p.toNat := by omega
    have hbn : base ≠ none := fun e => by have := h.ro.nil e; omega
    rw [ea_low base _ _ _ _ hbn hcl, show p.toNat * s + (o * s + q) = (p.toNat + o) * s + q by rw [Nat.add_mul]; omega]
    exact h.ro.cell (p.toNat + o) q (by omega) hq x (by rw [List.getElem?_drop] at hx; exact hx)
  · cases base with
    | none => unfold lowB at ha; split at ha <;> cases ha
    | some a0 =>
      have := h.far a0 rfl (by omega)
      unfold lowB at ha
      split at ha
      · injection ha with ha; subst ha; exact this
      · simp only [Option.map_some, Option.some.injEq] at ha
        subst ha
        have : (a0.add (p.toNat * s)).block = a0.block := by simp only [Addr.add]; split <;> rfl
        rw [this]; assumption
end
section rules
variable {C : Cx} {ops : Array Oper} {Q : Exit → Act → World → Prop} {l : List Nat} {E : Env} {H R : Heap} {i d : Nat} {ty : TypeId} {pos : String} {af : Array Edge} {g : Option (Nat × Bool)}
theorem TO.slH {α : Type} {xs : List α} {t e : TypeId} {x y : Operand} {base : Option Addr} {n c s : Nat} {k : IntKind} {p : Int} (hn : xs.length = n) (hc : n ≤ c) (hp : 0 ≤ p ∧ p ≤ (xs.length : Int))
    (ho : ops[i]? = some ⟨some d, .slice t x none (some y) none, ty, pos, af, g⟩) (hg : gdB ops E g = true) (hd : Nat.ble (d + 1) C.n = true)
    (hx : ev E x = some (.slice base n c)) (hy : ev E y = some (.int k p)) (ht : sliceT C.P t = some e) (hs : sizeT C.P e = some s)
    (kk : TO C ops Q l ((d, .slice base p.toNat c) :: E) H) : TO C ops Q (i :: l) E H :=
  TO.sliceTo ho hg hd hx hy ht hs hp.1 (by have := hp.2; omega) kk
/-- an array's element at a place that is known -/
theorem TO.indexA {t e : TypeId} {x y : Operand} {cs vs : List Value} {k : IntKind} {p : Int} {n s : Nat} (ho : ops[i]? = some ⟨some d, .index t x y, ty, pos, af, g⟩) (hg : gdB ops E g = true) (hd : Nat.ble (d + 1) C.n = true)
    (hx : ev E x = some (.agg cs.toArray)) (hy : ev E y = some (.int k p)) (hT : C.P.underlying t = some (.array n e)) (hs : aggT C.P e s = true) (h0 : 0 ≤ p ∧ p < (n : Int)) (hv : (cs.drop (p.toNat * s)).take s = vs)
    (kk : TO C ops Q l ((d, .agg vs.toArray) :: E) H) : TO C ops Q (i :: l) E H := TO.indexArrS ho hg hd hx hy hT hs h0.1 h0.2 hv kk
/-- copy into a row of ours -/
theorem copy_cells {α : Type} {f : α → List Value} {s : Nat} (hf : ∀ x, (f x).length = s) (xs ys : List α) (j : List Value) :
    (ys.take xs.length).flatMap f ++ (arr f xs j).drop ((ys.take xs.length).flatMap f).length = arr f (cpy xs ys) j := by
  unfold cpy
  simp only [arr, List.flatMap_append, List.append_assoc]
  congr 1
  rw [length_flat hf, List.length_take, List.drop_append]
  have e1 : (xs.flatMap f).drop (min xs.length ys.length * s) = (xs.drop ys.length).flatMap f := by
    have e2 : ∀ (m : Nat) (zs : List α), m ≤ zs.length → (zs.flatMap f).drop (m * s) = (zs.drop m).flatMap f := by
      intro m zs hm
      have h1 : zs = zs.take m ++ zs.drop m := (List.take_append_drop m zs).symm
      have h2 : ((zs.take m).flatMap f).length = m * s := by rw [length_flat hf, List.length_take]; congr 1; omega
      conv => lhs; rw [h1, List.flatMap_append]
      rw [← h2, List.drop_left]
    rw [e2 _ _ (by omega)]
    by_cases h : ys.length ≤ xs.length
    · rw [Nat.min_eq_right h]
    · rw [Nat.min_eq_left (by omega), List.drop_of_length_le (Nat.le_refl _), List.drop_of_length_le (by omega)]
  rw [e1]
  have e3 : min xs.length ys.length * s - (xs.flatMap f).length = 0 := by
    rw [length_flat hf]
    have := Nat.mul_le_mul_right s (Nat.min_le_left xs.length ys.length)
    omega
  rw [e3, List.drop_zero]
theorem TO.copyO {α : Type} {f : α → List Value} {s : Nat} {t t' e : TypeId} {x y : Operand} {ob : Option Nat} {base : Option Addr} {n c m cy : Nat} {xs ys : List α} {j : List Value}
    (hf : ∀ x, (f x).length = s) (h1 : ∀ x, (f x).all (·.oneCell') = true) (hn : xs.length = n) (hnc : n ≤ c) (h0 : ob = none → c = 0)
    (ho : ops[i]? = some ⟨some d, .call ⟨.builtin .copy, #[x, y], #[t, t']⟩, ty, pos, af, g⟩) (hg : gdB ops E g = true) (hd : Nat.ble (d + 1) C.n = true)
    (hx : ev E x = some (.slice (sb ob) n c)) (hy : ev E y = some (.slice base m cy)) (ht : sliceT C.P t = some e) (hs : sizeT C.P e = some s)
    (hT : Take (ob, .cells (arr f xs j).toArray e (0, 0)) H R) (hsrc : ∀ w, Inv C.w0 C.M w H → RS w [] f s base m cy ys)
    (kk : TO C ops Q l ((d, .int .i64 ((min xs.length ys.length : Nat) : Int)) :: E) ((ob, .cells (arr f (cpy xs ys) j).toArray e (0, 0)) :: R)) : TO C ops Q (i :: l) E H := by
  refine TO.gen ho hg (by simp) fun a w hfit hi => ?_
  have hr := hsrc w hi
  have hm := hr.len
  have hrun : (execOp a.eval ⟨some d, .call ⟨.builtin .copy, #[x, y], #[t, t']⟩, ty, pos, af, g⟩).run C.P w = ((Builtin.copy_ #[t, t'] ty #[.slice (sb ob) n c, .slice base m cy]).run C.P w).andThen fun v w' => .ok (.value v) w' := by
    simp [execOp, resolve, invoke, builtin, hfit.ev hx, hfit.ev hy]
  rw [hrun]
  have htk := (hr.ro.take (m := min m n) (Nat.min_le_left _ _)).first (P := C.P) (w := w) cy
  have hfc : (Builtin.firstCells s (min m n) (.slice base m cy)).run C.P w = .ok ((ys.take (min m n)).flatMap f).toArray w := by
    have : (Builtin.firstCells s (min m n) (.slice base m cy)).run C.P w = (Builtin.firstCells s (min m n) (.slice base (min m n) cy)).run C.P w := by cases base <;> rfl
    rw [this]; exact htk
  have emin : min m n = min xs.length ys.length := by rw [hn, hm, Nat.min_comm]
  have etk : ys.take (min m n) = ys.take xs.length := by
    rw [hn]
    by_cases h : n ≤ m
    · rw [Nat.min_eq_right h]
    · rw [Nat.min_eq_left (by omega), List.take_of_length_le (by omega), List.take_of_length_le (by omega)]
  rw [etk] at hfc
  cases ob with
  | none =>
    have hn0 : n = 0 := by have := h0 rfl; omega
    have hx0 : xs = [] := List.eq_nil_of_length_eq_zero (by omega)
    subst hx0
    have : (Builtin.copy_ #[t, t'] ty #[.slice (sb none) n c, .slice base m cy]).run C.P w = .ok (goInt (min m n : Nat)) w := by
      simp [Builtin.copy_, run_underlying (sliceT_eq ht), Builtin.lenOf, run_sizeT hs, Nat.min_def, hn0] at hfc ⊢
      simp [hfc]
    rw [this]
    simp only [Result.andThen_ok]
    refine kk _ _ ?_ ?_
    · have := hfit.put hd (goInt (min m n : Nat)); rw [emin] at this; simpa [goInt, emin] using this
    · have e : cpy ([] : List α) ys = [] := by simp [cpy]
      rw [e]; exact hi.perm hT
  | some b =>
    have hb := hi.own b _ hT.mem
    have hlen : ((ys.take xs.length).flatMap f).length ≤ (arr f xs j).toArray.size := by
      simp only [List.size_toArray, arr, List.length_append, length_flat hf, List.length_take]
      have := Nat.mul_le_mul_right s (Nat.min_le_left xs.length ys.length); omega
    have hall : ∀ u, u ∈ (ys.take xs.length).flatMap f → u.oneCell' = true := by
      intro u hu
      obtain ⟨z, _, hz⟩ := List.mem_flatMap.1 hu
      exact List.all_eq_true.1 (h1 z) u hz
    have hst := run_storeCells_at C.P b 0 e ((ys.take xs.length).flatMap f) 0 (arr f xs j).toArray w hb (by simpa using hlen) hall
    simp only [Nat.add_zero, Nat.zero_add, List.take_zero, List.nil_append] at hst
    have hcc := copy_cells hf xs ys j
    rw [hcc] at hst
    have hrun2 : (Builtin.copy_ #[t, t'] ty #[.slice (sb (some b)) n c, .slice base m cy]).run C.P w = .ok (goInt (min m n : Nat)) (w.setRow b (arr f (cpy xs ys) j).toArray) := by
      have hfc2 := hfc
      simp only [Nat.min_def] at hfc2
      simp [Builtin.copy_, run_underlying (sliceT_eq ht), Builtin.lenOf, run_sizeT hs, Nat.min_def, hfc2, hst]
    rw [hrun2]
    simp only [Result.andThen_ok]
    refine kk _ _ ?_ ?_
    · have := hfit.put hd (goInt (min m n : Nat)); rw [emin] at this ⊢; exact this
    · exact hi.setRow hT
/-- a slice of structs that is made -/
theorem madeCells_flat {α : Type} {f : α → List Value} {s : Nat} (z : α) (hf : (f z).length = s) (hs : 0 < s) (n : Nat) : madeCells (f z).toArray (n * s) = (arr f (List.replicate n z) []).toArray := by
  unfold madeCells
  apply Array.ext'
  simp only [Array.toList_map, Array.toList_range, List.size_toArray, hf, arr, List.append_nil]
  apply List.ext_getElem?
  intro i
  rw [List.getElem?_map]
  by_cases hi : i < n * s
  · rw [List.getElem?_range hi]
    have h1 : i / s < (List.replicate n z).length := by rw [List.length_replicate]; exact Nat.div_lt_of_lt_mul (by rw [Nat.mul_comm]; exact hi)
    have h2 : i % s < s := Nat.mod_lt _ hs
    have hq : ∀ (xs : List α) (o c : Nat), (∀ x, x ∈ xs → (f x).length = s) → o < xs.length → c < s → (xs.flatMap f)[o * s + c]? = (f (xs.getD o z))[c]? := by
      intro xs
      induction xs with
      | nil => intro o c _ h; simp at h
      | cons x xs ih =>
        intro o c hl h hc
        have hx := hl x (.head _)
        cases o with
        | zero => rw [List.flatMap_cons, Nat.zero_mul, Nat.zero_add, List.getElem?_append_left (by rw [hx]; exact hc)]; rfl
        | succ o =>
          rw [List.flatMap_cons, List.getElem?_append_right (by rw [hx, Nat.add_mul]; omega), hx]
          have : (o + 1) * s + c - s = o * s + c := by rw [Nat.add_mul]; omega
          rw [this, ih o c (fun y hy => hl y (.tail _ hy)) (by simpa using h) hc]; rfl
    have h3 := hq (List.replicate n z) (i / s) (i % s) (fun x hx => by rw [List.eq_of_mem_replicate hx]; exact hf) h1 h2
    have h4 : i / s * s + i % s = i := by rw [Nat.mul_comm]; exact Nat.div_add_mod i s
    rw [h4] at h3
    rw [h3]
    have h5 : (List.replicate n z).getD (i / s) z = z := by rw [List.getD_eq_getElem?_getD, List.getElem?_replicate]; split <;> simp
    rw [h5]
    have h6 : i % s < (f z).length := by rw [hf]; exact h2
    simp [h6]
  · rw [List.getElem?_eq_none (by simp; omega), List.getElem?_eq_none]
    · rfl
    · have : ((List.replicate n z).flatMap f).length = n * s := by
        clear hi
        induction n with
        | zero => simp
        | succ n ih => rw [List.replicate_succ, List.flatMap_cons, List.length_append, ih, hf, Nat.add_mul]; omega
      omega
theorem TO.mkS {α : Type} {f : α → List Value} {t e : TypeId} {x y : Operand} {k k' : IntKind} {p : Int} {z : Value} {zc : α} {by' s : Nat} (h : mkok p) (hf : (f zc).length = s) (hs0 : Nat.ble 1 s = true) (hzc : z.cells = (f zc).toArray)
    (ho : ops[i]? = some ⟨some d, .makeSlice t x y, ty, pos, af, g⟩) (hg : gdB ops E g = true) (hd : Nat.ble (d + 1) C.n = true)
    (hx : ev E x = some (.int k p)) (hy : ev E y = some (.int k' p)) (ht : sliceT C.P t = some e) (hs : sizeT C.P e = some s) (hz : zeroT C.P e = some z) (hb : bytesT C.P e = some by') (hby : Nat.ble by' 1024 = true)
    (kk : ∀ b, TO C ops Q l ((d, .slice (some ⟨b, 0, none⟩) p.toNat p.toNat) :: E) ((some b, .cells (arr f (List.replicate p.toNat zc) []).toArray e (0, 0)) :: H)) : TO C ops Q (i :: l) E H := by
  obtain ⟨ti, hti, hsz⟩ := sizeT_eq hs
  have hz' : ti.zero = some z := by simpa [zeroT, hti] using hz
  have hb' : ti.bytes = by' := by simpa [bytesT, hti] using hb
  have hby' := Nat.le_of_ble_eq_true hby
  have h0 := h.1
  have h1 := h.2
  refine TO.new (fun b => .slice (some ⟨b, 0, none⟩) p.toNat p.toNat) ho hg hd (by simp) (fun a w hfit hi => ?_) kk
  have hr := run_make (P := C.P) w t e ti z (sliceT_eq ht) hti hz' k k' p p h0 (Int.le_refl _) (by
    rw [hb']
    have h2 : (by' : Int) * p ≤ 1024 * 4294967296 := Int.mul_le_mul (by omega) h1 h0 (by omega)
    omega) (by omega)
  rw [hsz, hzc, madeCells_flat zc hf (Nat.le_of_ble_eq_true hs0)] at hr
  simp [execOp, hfit.ev hx, hfit.ev hy, hr]
/-- a test on numbers that are known -/
theorem TO.binK {op : BinOp} {t t2 : TypeId} {x y : Operand} {k : IntKind} {p q : Int} {c : Prop} {hc : Decidable c} {b : Bool}
    (ho : ops[i]? = some ⟨some d, .binOp op t x y t2, ty, pos, af, g⟩) (hg : gdB ops E g = true) (hd : Nat.ble (d + 1) C.n = true) (hx : ev E x = some (.int k p)) (hy : ev E y = some (.int k q))
    (hv : binV op k p q = some (.bool (@decide c hc))) (h : @decide c hc = b) (kk : TO C ops Q l ((d, .bool b) :: E) H) : TO C ops Q (i :: l) E H :=
  TO.bin ho hg hd hx hy hv (by rw [h]; exact kk)
theorem TO.addL {t t2 : TypeId} {x y : Operand} {p q r : Int} (h : p + q = r ∧ i64ok r)
    (ho : ops[i]? = some ⟨some d, .binOp .add t x y t2, ty, pos, af, g⟩) (hg : gdB ops E g = true) (hd : Nat.ble (d + 1) C.n = true) (hx : ev E x = some (.int .i64 p)) (hy : ev E y = some (.int .i64 q))
    (kk : TO C ops Q l ((d, .int .i64 r) :: E) H) : TO C ops Q (i :: l) E H := TO.addG (by rw [h.1]; exact h.2) ho hg hd hx hy (by rw [h.1]; exact kk)
end rules
end Go.Acq
namespace Go.Acq
open Go Go.RowKit
end Go.Acq
namespace Go.Acq
open Go Go.RowKit
section rules
variable {C : Cx} {ops : Array Oper} {Q : Exit → Act → World → Prop} {l : List Nat} {E : Env} {H R : Heap} {i d : Nat} {ty : TypeId} {pos : String} {af : Array Edge} {g : Option (Nat × Bool)}
end rules
end Go.Acq
