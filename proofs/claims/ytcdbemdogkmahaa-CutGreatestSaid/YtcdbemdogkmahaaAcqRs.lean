/- The layer of triples: rules that lean on the facts of a model; rows that are read only, beside blocks that are written. -/
import Derived.Test.YtcdbemdogkmahaaAcqModel
import Derived.Test.YtcdbemdogkmahaaAcqOwn
namespace Go.Acq
open Go Go.RowKit
/-! ### loops and meeting ways: all slots that live are written out -/
section control
variable {C : Cx} {Q : Exit → Act → World → Prop} {E E' : Env} {H H' : Heap} {c x y : Code}
theorem AllF.cons {t : Nat} {v : Value} {L E : Env} (h : find E t = some v) (h2 : AllF L E) : AllF ((t, v) :: L) E := ⟨h, h2⟩
theorem AllF.nil {E : Env} : AllF [] E := trivial
theorem Fits.all {n : Nat} {D : List Deferred} {L E : Env} {a : Act} (h : Fits n D E a) (hL : AllF L E) : Fits n D L a := h.weak hL.sub
theorem T.weakE (h : T C c Q E' H') (hE : AllF E' E) (hH : Pick H' H) : T C c Q E H := h.weak hE.sub hH
theorem T.loopE {α : Type} (φ : α → Prop) (L : α → Env) (Hs : α → Heap) (μ : α → Nat) (s0 : α) (h0 : φ s0) (hE : AllF (L s0) E) (hH : Pick (Hs s0) H)
    (round : ∀ s, φ s → T C c (Exit.then (fun a w => ∃ s', φ s' ∧ μ s' < μ s ∧ Fits C.n C.D (L s') a ∧ Inv C.w0 C.M w (Hs s')) Q) (L s) (Hs s)) : T C (.loop c) Q E H := by
  refine T.weakE (E' := L s0) (H' := Hs s0) ?_ hE hH
  intro a w hf hi b k cs hro hb hr
  have key : ∀ j s a w, μ s = j → φ s → Fits C.n C.D (L s) a → Inv C.w0 C.M w (Hs s) →
      ∃ e a' w', Q e a' w' ∧ ArrivesIn (Machine.fenced C.P (FW C.ρ)) C.P (lone (b.atR a (.code c :: .inLoop c :: k)) cs w) b k cs e a' w' := by
    intro j
    induction j using Nat.strongRecOn with
    | _ j ih =>
      intro s a w hj hφ hfit hinv
      obtain ⟨e, a₁, w₁, hq, harr⟩ := round s hφ a w hfit hinv b (.inLoop c :: k) cs hro hb hr
      cases e with
      | normal =>
        obtain ⟨s', hφ', hlt, hfit', hinv'⟩ := hq
        obtain ⟨e₂, a₂, w₂, hq₂, harr₂⟩ := ih (μ s') (hj ▸ hlt) s' a₁ w₁ rfl hφ' hfit' hinv'
        exact ⟨e₂, a₂, w₂, hq₂, .of_steps (StepsIn.trans harr (.one (fenced_calm hb hr rfl) stepR_inLoop)) harr₂⟩
      | exit id => exact ⟨_, a₁, w₁, hq, .pass (x := .inLoop c) rfl (fun _ _ => .inl (by simp)) harr⟩
      | goto l => exact ⟨_, a₁, w₁, hq, .pass (x := .inLoop c) rfl (fun _ _ => .inl (by simp)) harr⟩
      | ret => exact ⟨_, a₁, w₁, hq, .pass (x := .inLoop c) rfl (fun _ _ => .inl (by simp)) harr⟩
      | panic ch => exact ⟨_, a₁, w₁, hq, .pass (x := .inLoop c) rfl (fun _ _ => .inl (by simp)) harr⟩
      | outgrown => exact ⟨_, a₁, w₁, hq, .pass (x := .inLoop c) rfl (fun _ _ => .inl (by simp)) harr⟩
  obtain ⟨e, a', w', hq, harr⟩ := key _ s0 a w rfl h0 hf hi
  exact ⟨e, a', w', hq, .of_steps (.one (fenced_calm hb hr rfl) stepR_loop) harr⟩
end control
/-! ### rows that are read only -/
/-- a row that is read, by whomever; none of the blocks M is its -/
structure RS {α : Type} (w : World) (M : List Nat) (f : α → List Value) (s : Nat) (base : Option Addr) (n c : Nat) (xs : List α) : Prop where
  ro : RO w f s base n xs
  far : ∀ a, base = some a → 0 < n → a.block ∉ M
  cap : n ≤ c
/-- a block that is read -/
structure HB (w : World) (M : List Nat) (b : Nat) (cs : List Value) : Prop where
  has : Has w b cs
  far : b ∉ M
section
variable {α : Type} {w w0 : World} {M M' : List Nat} {f : α → List Value} {s n c : Nat} {base : Option Addr} {xs : List α} {H Hm R : Heap}
theorem RS.len (h : RS w M f s base n c xs) : xs.length = n := h.ro.len
theorem RS.nil (w : World) (M : List Nat) (hf : ∀ x, (f x).length = s) : RS w M f s none 0 0 ([] : List α) := ⟨RO.nil' w hf, (fun _ e => by cases e), Nat.le_refl _⟩
theorem RO.monoM (h : RO w0 f s base n xs) (hfar : ∀ a, base = some a → 0 < n → a.block ∉ M) (hi : Inv w0 M w H) : RO w f s base n xs :=
  ⟨h.len, h.nil, h.wide, fun o q ho hq x hx => by
    have h1 := h.cell o q ho hq x hx
    have hcl : q < (f x).length := by rw [h.wide]; exact hq
    have hn : 0 < n := by have := h.len; omega
    cases base with
    | none => have := h.nil rfl; omega
    | some a =>
      have hb : (ea (some a) (o * s + q)).block = a.block := by
        simp only [ea, Option.getD_some, Addr.add]; split <;> rfl
      rw [List.getElem?_eq_getElem hcl] at h1 ⊢
      exact hi.cell_old h1 (by rw [hb]; exact hfar a rfl hn)⟩
/-- handed on to a callee that writes nothing -/
theorem RS.mono (h : RS w0 M f s base n c xs) (hi : Inv w0 M w H) : RS w [] f s base n c xs := ⟨h.ro.monoM h.far hi, fun _ _ _ => by simp, h.cap⟩
theorem RO.block_lt (h : RO w f s base n xs) (hs : 0 < s) (hn : 0 < n) {a : Addr} (ha : base = some a) : a.block < w.heap.size := by
  subst ha
  have h0 : 0 < xs.length := by rw [h.len]; exact hn
  have h1 := h.cell 0 0 h0 hs xs[0] (List.getElem?_eq_getElem h0)
  have hcl : 0 < (f xs[0]).length := by rw [h.wide]; exact hs
  rw [List.getElem?_eq_getElem hcl] at h1
  simp only [Nat.zero_mul, Nat.add_zero, ea, Option.getD_some, Addr.add, if_true] at h1
  unfold World.cell? at h1
  split at h1
  · rename_i he; exact (Array.getElem?_eq_some_iff.1 he).1
  · cases h1
/-- handed on to a callee that writes blocks of ours -/
theorem RS.monoM (h : RS w0 M f s base n c xs) (hs : 0 < s) (hi : Inv w0 M w H) (hp : List.Perm H (Hm ++ R)) (hM : Hm.filterMap (·.1) = M') : RS w M' f s base n c xs :=
  ⟨h.ro.monoM h.far hi, fun a ha hn hm => by
    have hlt := h.ro.block_lt hs hn ha
    subst hM
    obtain ⟨o, ho⟩ := of_mem_ids hm
    rcases hi.low a.block o ((List.Perm.mem_iff hp).2 (List.mem_append_left _ ho)) with hl | hl
    · omega
    · exact h.far a ha hn hl, h.cap⟩
/-- a row of ours -/
theorem Inv.rs (hi : Inv w0 M w H) (hf : ∀ x, (f x).length = s) {ob : Option Nat} {T' : TypeId} {fr : Nat × Nat} {j : List Value} (hm : (ob, Obj.cells (arr f xs j).toArray T' fr) ∈ H) (hn : xs.length = n) (hc : n ≤ c) (h0 : ob = none → c = 0) :
    RS w [] f s (sb ob) n c xs := ⟨hi.roO hf hm hn (fun e => by have := h0 e; omega), fun _ _ _ => by simp, hc⟩
theorem Inv.rsM (hi : Inv w0 M w H) (hf : ∀ x, (f x).length = s) {ob : Option Nat} {T' : TypeId} {fr : Nat × Nat} {j : List Value} (hp : List.Perm H (Hm ++ R)) (hM : Hm.filterMap (·.1) = M')
    (hm : (ob, Obj.cells (arr f xs j).toArray T' fr) ∈ R) (hn : xs.length = n) (hc : n ≤ c) (h0 : ob = none → c = 0) : RS w M' f s (sb ob) n c xs :=
  ⟨hi.roO hf ((List.Perm.mem_iff hp).2 (List.mem_append_right _ hm)) hn (fun e => by have := h0 e; omega), fun a ha _ hmM => by
    cases ob with
    | none => cases ha
    | some b =>
      simp only [sb, Option.map_some, Option.some.injEq] at ha
      subst ha
      subst hM
      have ha := (hi.perm hp).apart
      rw [List.filterMap_append] at ha
      exact (List.nodup_append.1 ha).2.2 _ hmM _ (mem_ids hm) rfl, hc⟩
theorem HB.mono {b : Nat} {cs : List Value} (h : HB w0 M b cs) (hi : Inv w0 M w H) : HB w [] b cs := ⟨fun j v hj => hi.cell_old (h.has j v hj) h.far, by simp⟩
theorem Inv.hb (hi : Inv w0 M w H) {b : Nat} {cs : List Value} {T' : TypeId} {fr : Nat × Nat} (hm : (some b, Obj.cells cs.toArray T' fr) ∈ H) : HB w [] b cs := ⟨hi.has hm, by simp⟩
theorem Inv.hbM (hi : Inv w0 M w H) {b : Nat} {cs : List Value} {T' : TypeId} {fr : Nat × Nat} (hp : List.Perm H (Hm ++ R)) (hM : Hm.filterMap (·.1) = M') (hm : (some b, Obj.cells cs.toArray T' fr) ∈ R) : HB w M' b cs :=
  ⟨hi.has ((List.Perm.mem_iff hp).2 (List.mem_append_right _ hm)), fun hmM => by
    subst hM
    have ha := (hi.perm hp).apart
    rw [List.filterMap_append] at ha
    exact (List.nodup_append.1 ha).2.2 _ hmM _ (mem_ids hm) rfl⟩
end
/-! ### facts on lengths -/
theorem own_some {ob : Option Nat} {n c : Nat} {i : Int} {α : Type} {xs : List α} (h0 : ob = none → c = 0) (hc : n ≤ c) (hn : xs.length = n) (g : inb i xs.length) : ∃ b, ob = some b := by
  cases ob with
  | none => have := h0 rfl; obtain ⟨g1, g2⟩ := g; omega
  | some b => exact ⟨b, rfl⟩
theorem someZ {b c : Nat} : (some b : Option Nat) = none → c = 0 := fun e => by cases e
theorem zeroJ (c s : Nat) : ([] : List Value).length = (c - c) * s := by simp
theorem lenApp {α : Type} {xs ys : List α} {n m : Nat} (h : xs.length = n) (g : ys.length = m) : (xs ++ ys).length = n + m := by rw [List.length_append, h, g]
theorem inb_lt {i : Int} {n : Nat} (g : inb i n) : i.toNat < n := by obtain ⟨g1, g2⟩ := g; omega
section rules
variable {C : Cx} {ops : Array Oper} {Q : Exit → Act → World → Prop} {l : List Nat} {E : Env} {H R : Heap} {i d : Nat} {ty : TypeId} {pos : String} {af : Array Edge} {g : Option (Nat × Bool)}

theorem TO.lenX {α : Type} {t : TypeId} {at' : Array TypeId} {x : Operand} {e : TypeId} {base : Option Addr} {n c : Nat} {xs : List α} (hn : xs.length = n)
    (ho : ops[i]? = some ⟨some d, .call ⟨.builtin .len, #[x], at'⟩, ty, pos, af, g⟩) (hg : gdB ops E g = true) (hd : Nat.ble (d + 1) C.n = true) (hat : at'[0]? = some t)
    (hx : ev E x = some (.slice base n c)) (ht : sliceT C.P t = some e) (kk : TO C ops Q l ((d, .int .i64 (xs.length : Int)) :: E) H) : TO C ops Q (i :: l) E H :=
  TO.len ho hg hd hat hx ht (by rw [← hn]; exact kk)
/-- an index of a row that is read only -/
theorem TO.ixR {α : Type} {f : α → List Value} {M : List Nat} {w : World} {xs : List α} {t e : TypeId} {x y : Operand} {base : Option Addr} {n c s : Nat} {k : IntKind} {p : Int} (hr : RS w M f s base n c xs) (hp : inb p xs.length)
    (ho : ops[i]? = some ⟨some d, .indexAddr t x y, ty, pos, af, g⟩) (hg : gdB ops E g = true) (hd : Nat.ble (d + 1) C.n = true)
    (hx : ev E x = some (.slice base n c)) (hy : ev E y = some (.int k p)) (ht : sliceT C.P t = some e) (hs : sizeT C.P e = some s)
    (kk : TO C ops Q l ((d, .pointer (some (ea base (p.toNat * s)))) :: E) H) : TO C ops Q (i :: l) E H :=
  TO.indexR ho hg hd hx hy ht hs hr.ro.nil hp.1 (by have := hp.2; rw [hr.len] at this; exact this) kk
/-- of one of ours -/
theorem TO.ix0 {α : Type} {xs : List α} {t e : TypeId} {x y : Operand} {b n c s : Nat} {k : IntKind} {p : Int} (hn : xs.length = n) (hp : inb p xs.length)
    (ho : ops[i]? = some ⟨some d, .indexAddr t x y, ty, pos, af, g⟩) (hg : gdB ops E g = true) (hd : Nat.ble (d + 1) C.n = true)
    (hx : ev E x = some (.slice (some ⟨b, 0, none⟩) n c)) (hy : ev E y = some (.int k p)) (ht : sliceT C.P t = some e) (hs : sizeT C.P e = some s)
    (kk : TO C ops Q l ((d, .pointer (some ⟨b, p.toNat * s, none⟩)) :: E) H) : TO C ops Q (i :: l) E H :=
  TO.index0 ho hg hd hx hy ht hs hp.1 (by have := hp.2; rw [hn] at this; exact this) kk
theorem TO.ix1 {α : Type} {xs : List α} {t e : TypeId} {x y : Operand} {b n c : Nat} {k : IntKind} {p : Int} (hn : xs.length = n) (hp : inb p xs.length)
    (ho : ops[i]? = some ⟨some d, .indexAddr t x y, ty, pos, af, g⟩) (hg : gdB ops E g = true) (hd : Nat.ble (d + 1) C.n = true)
    (hx : ev E x = some (.slice (some ⟨b, 0, none⟩) n c)) (hy : ev E y = some (.int k p)) (ht : sliceT C.P t = some e) (hs : sizeT C.P e = some 1)
    (kk : TO C ops Q l ((d, .pointer (some ⟨b, p.toNat, none⟩)) :: E) H) : TO C ops Q (i :: l) E H :=
  TO.index1 ho hg hd hx hy ht hs hp.1 (by have := hp.2; rw [hn] at this; exact this) kk
theorem run_fieldAny {P : Program} {s : TypeId} {f o : Nat} {w : World} (h : fieldT P s f = some o) (a : Addr) : (Instr.fieldAt s (.pointer (some a)) f).run P w = .ok (.pointer (some (a.add o))) w := by
  unfold fieldT at h
  split at h
  · rename_i fs hu
    cases hg : fs[f]? with
    | none => simp [hg] at h
    | some g =>
      cases hi : P.info? g.type with
      | none => simp [hg, hi] at h
      | some i =>
        simp only [hg, hi, Option.bind_some] at h
        by_cases hz : i.size = 0
        · simp [hz] at h
        · simp [hz] at h
          subst h
          simp [Instr.fieldAt, run_underlying hu, hg, Instr.sureAddr, fieldPlace, sizeOf, typeInfo, hi, hz]
  · cases h
theorem TO.faR {s : TypeId} {x : Operand} {f o n : Nat} {base : Option Addr} (ho : ops[i]? = some ⟨some d, .fieldAddr s x f, ty, pos, af, g⟩) (hg : gdB ops E g = true) (hd : Nat.ble (d + 1) C.n = true)
    (hx : ev E x = some (.pointer (some (ea base n)))) (hT : fieldT C.P s f = some o) (kk : TO C ops Q l ((d, .pointer (some (ea base (n + o)))) :: E) H) : TO C ops Q (i :: l) E H :=
  TO.val ho hg hd (by simp) (fun a w hf _ => by simp [execOp, hf.ev hx, run_fieldAny hT, ea_add]) kk
/-- loads from rows that are read only -/
theorem TO.ldIR {t : TypeId} {x : Operand} {base : Option Addr} {n c : Nat} {k : IntKind} {p : Int} {xs : List Int} (hr : RS C.w0 C.M (intC k) 1 base n c xs) (hp : inb p xs.length) (ho : ops[i]? = some ⟨some d, .load t x, ty, pos, af, g⟩) (hg : gdB ops E g = true) (hd : Nat.ble (d + 1) C.n = true)
    (hx : ev E x = some (.pointer (some (ea base (p.toNat * 1))))) (hT : scalT C.P t = true)
    (kk : TO C ops Q l ((d, .int k (xs.getD p.toNat 0)) :: E) H) : TO C ops Q (i :: l) E H :=
  TO.load ho hg hd hx hT (fun w hi => by
    have := (hr.ro.monoM hr.far hi).at 0 (o := p.toNat) (c := 0) (inb_lt hp) (by omega)
    simpa using this) kk
theorem TO.ldBR {t : TypeId} {x : Operand} {base : Option Addr} {n c : Nat} {p : Int} {xs : List Bool} (hr : RS C.w0 C.M boolC 1 base n c xs) (hp : inb p xs.length) (ho : ops[i]? = some ⟨some d, .load t x, ty, pos, af, g⟩) (hg : gdB ops E g = true) (hd : Nat.ble (d + 1) C.n = true)
    (hx : ev E x = some (.pointer (some (ea base (p.toNat * 1))))) (hT : scalT C.P t = true)
    (kk : TO C ops Q l ((d, .bool (xs.getD p.toNat false)) :: E) H) : TO C ops Q (i :: l) E H :=
  TO.load ho hg hd hx hT (fun w hi => by
    have := (hr.ro.monoM hr.far hi).at false (o := p.toNat) (c := 0) (inb_lt hp) (by omega)
    simpa using this) kk
theorem TO.ldSR {α : Type} {f : α → List Value} {s : Nat} {t : TypeId} {x : Operand} {base : Option Addr} {n c : Nat} {p : Int} {xs : List α} {cs : List Value} (dflt : α) (hr : RS C.w0 C.M f s base n c xs) (hp : inb p xs.length) (hcs : f (xs.getD p.toNat dflt) = cs)
    (ho : ops[i]? = some ⟨some d, .load t x, ty, pos, af, g⟩) (hg : gdB ops E g = true) (hd : Nat.ble (d + 1) C.n = true)
    (hx : ev E x = some (.pointer (some (ea base (p.toNat * s))))) (hT : aggT C.P t s = true)
    (kk : TO C ops Q l ((d, .agg cs.toArray) :: E) H) : TO C ops Q (i :: l) E H :=
  TO.loadS ho hg hd hx hT (by rw [← hcs]; exact hr.ro.wide _) (fun w hi q v hq => by
    subst hcs
    have hqs : q < s := by rw [← hr.ro.wide (xs.getD p.toNat dflt)]; exact (List.getElem?_eq_some_iff.1 hq).1
    have := (hr.ro.monoM hr.far hi).at dflt (o := p.toNat) (c := q) (inb_lt hp) hqs
    rw [ea_add]
    exact this.trans hq) kk
/-- a field of an element of a row that is read only -/
theorem TO.ldFR {α : Type} {f : α → List Value} {s : Nat} {t : TypeId} {x : Operand} {base : Option Addr} {n c q : Nat} {p : Int} {xs : List α} {v : Value} (dflt : α) (hr : RS C.w0 C.M f s base n c xs) (hp : inb p xs.length) (hv : (f (xs.getD p.toNat dflt))[q]? = some v)
    (ho : ops[i]? = some ⟨some d, .load t x, ty, pos, af, g⟩) (hg : gdB ops E g = true) (hd : Nat.ble (d + 1) C.n = true)
    (hx : ev E x = some (.pointer (some (ea base (p.toNat * s + q))))) (hT : scalT C.P t = true)
    (kk : TO C ops Q l ((d, v) :: E) H) : TO C ops Q (i :: l) E H :=
  TO.load ho hg hd hx hT (fun w hi => by
    have hqs : q < s := by rw [← hr.ro.wide (xs.getD p.toNat dflt)]; exact (List.getElem?_eq_some_iff.1 hv).1
    have := (hr.ro.monoM hr.far hi).at dflt (o := p.toNat) (c := q) (inb_lt hp) hqs
    exact this.trans hv) kk
/-- loads from rows of ours -/
theorem TO.ldIO {t T' : TypeId} {x : Operand} {b : Nat} {k : IntKind} {p : Int} {xs : List Int} {j : List Value} {fr : Nat × Nat} (hp : inb p xs.length) (ho : ops[i]? = some ⟨some d, .load t x, ty, pos, af, g⟩) (hg : gdB ops E g = true) (hd : Nat.ble (d + 1) C.n = true)
    (hx : ev E x = some (.pointer (some ⟨b, p.toNat, none⟩))) (hT : scalT C.P t = true) (hm : (some b, Obj.cells (arr (intC k) xs j).toArray T' fr) ∈ H)
    (kk : TO C ops Q l ((d, .int k (xs.getD p.toNat 0)) :: E) H) : TO C ops Q (i :: l) E H := TO.ldI ho hg hd hx hT hm (inb_lt hp) kk
theorem TO.ldBO {t T' : TypeId} {x : Operand} {b : Nat} {p : Int} {xs : List Bool} {j : List Value} {fr : Nat × Nat} (hp : inb p xs.length) (ho : ops[i]? = some ⟨some d, .load t x, ty, pos, af, g⟩) (hg : gdB ops E g = true) (hd : Nat.ble (d + 1) C.n = true)
    (hx : ev E x = some (.pointer (some ⟨b, p.toNat, none⟩))) (hT : scalT C.P t = true) (hm : (some b, Obj.cells (arr boolC xs j).toArray T' fr) ∈ H)
    (kk : TO C ops Q l ((d, .bool (xs.getD p.toNat false)) :: E) H) : TO C ops Q (i :: l) E H := TO.ldB ho hg hd hx hT hm (inb_lt hp) kk
theorem TO.ldSO {α : Type} {f : α → List Value} {s : Nat} {t T' : TypeId} {x : Operand} {b : Nat} {p : Int} {xs : List α} {j : List Value} {fr : Nat × Nat} {cs : List Value} (dflt : α) (hf : ∀ x, (f x).length = s) (hp : inb p xs.length) (hcs : f (xs.getD p.toNat dflt) = cs)
    (ho : ops[i]? = some ⟨some d, .load t x, ty, pos, af, g⟩) (hg : gdB ops E g = true) (hd : Nat.ble (d + 1) C.n = true)
    (hx : ev E x = some (.pointer (some ⟨b, p.toNat * s, none⟩))) (hT : aggT C.P t s = true) (hm : (some b, Obj.cells (arr f xs j).toArray T' fr) ∈ H)
    (kk : TO C ops Q l ((d, .agg cs.toArray) :: E) H) : TO C ops Q (i :: l) E H := TO.ldS dflt hf ho hg hd hx hT hm (inb_lt hp) (by rw [hcs]; exact kk)
/-- stores into rows of ours -/
theorem TO.stIO {t T' : TypeId} {x y : Operand} {b : Nat} {k : IntKind} {p v : Int} {xs : List Int} {j : List Value} (hp : inb p xs.length) (ho : ops[i]? = some ⟨none, .store t x y, ty, pos, af, g⟩) (hg : gdB ops E g = true)
    (hx : ev E x = some (.pointer (some ⟨b, p.toNat, none⟩))) (hy : ev E y = some (.int k v)) (ht : Take (some b, .cells (arr (intC k) xs j).toArray T' (0, 0)) H R) (hs : sizeT C.P t = some 1)
    (kk : TO C ops Q l E ((some b, .cells (arr (intC k) (xs.set p.toNat v) j).toArray T' (0, 0)) :: R)) : TO C ops Q (i :: l) E H := TO.stI ho hg hx hy ht hs (inb_lt hp) kk
theorem TO.stBO {t T' : TypeId} {x y : Operand} {b : Nat} {p : Int} {v : Bool} {xs : List Bool} {j : List Value} (hp : inb p xs.length) (ho : ops[i]? = some ⟨none, .store t x y, ty, pos, af, g⟩) (hg : gdB ops E g = true)
    (hx : ev E x = some (.pointer (some ⟨b, p.toNat, none⟩))) (hy : ev E y = some (.bool v)) (ht : Take (some b, .cells (arr boolC xs j).toArray T' (0, 0)) H R) (hs : sizeT C.P t = some 1)
    (kk : TO C ops Q l E ((some b, .cells (arr boolC (xs.set p.toNat v) j).toArray T' (0, 0)) :: R)) : TO C ops Q (i :: l) E H := TO.stB ho hg hx hy ht hs (inb_lt hp) kk
theorem TO.stSO {α : Type} {f : α → List Value} {s : Nat} {t T' : TypeId} {x y : Operand} {b : Nat} {p : Int} {v : α} {xs : List α} {j : List Value} {cs : List Value} (hf : ∀ x, (f x).length = s) (h1 : ∀ x, (f x).all (·.oneCell') = true) (hp : inb p xs.length) (hcs : f v = cs)
    (ho : ops[i]? = some ⟨none, .store t x y, ty, pos, af, g⟩) (hg : gdB ops E g = true)
    (hx : ev E x = some (.pointer (some ⟨b, p.toNat * s, none⟩))) (hy : ev E y = some (.agg cs.toArray)) (ht : Take (some b, .cells (arr f xs j).toArray T' (0, 0)) H R) (hs : sizeT C.P t = some s)
    (kk : TO C ops Q l E ((some b, .cells (arr f (xs.set p.toNat v) j).toArray T' (0, 0)) :: R)) : TO C ops Q (i :: l) E H := TO.stS hf h1 ho hg hx (by rw [hcs]; exact hy) ht hs (inb_lt hp) kk
where hf_set_len {α : Type} {f : α → List Value} {s : Nat} {x : α} {q : Nat} {v : Value} (hf : ∀ x, (f x).length = s) : ((f x).set q v).length = s := by rw [List.length_set, hf]
/-- arithmetic that the model has guarded -/
theorem TO.addG {t t2 : TypeId} {x y : Operand} {p q : Int} (h : i64ok (p + q)) (ho : ops[i]? = some ⟨some d, .binOp .add t x y t2, ty, pos, af, g⟩) (hg : gdB ops E g = true) (hd : Nat.ble (d + 1) C.n = true) (hx : ev E x = some (.int .i64 p)) (hy : ev E y = some (.int .i64 q))
    (kk : TO C ops Q l ((d, .int .i64 (p + q)) :: E) H) : TO C ops Q (i :: l) E H := TO.add ho hg hd hx hy h.1 h.2 kk
theorem TO.subG {t t2 : TypeId} {x y : Operand} {p q : Int} (h : i64ok (p - q)) (ho : ops[i]? = some ⟨some d, .binOp .sub t x y t2, ty, pos, af, g⟩) (hg : gdB ops E g = true) (hd : Nat.ble (d + 1) C.n = true) (hx : ev E x = some (.int .i64 p)) (hy : ev E y = some (.int .i64 q))
    (kk : TO C ops Q l ((d, .int .i64 (p - q)) :: E) H) : TO C ops Q (i :: l) E H := TO.sub ho hg hd hx hy h.1 h.2 kk
theorem TO.mulG {t t2 : TypeId} {x y : Operand} {p q : Int} (h : i64ok (p * q)) (ho : ops[i]? = some ⟨some d, .binOp .mul t x y t2, ty, pos, af, g⟩) (hg : gdB ops E g = true) (hd : Nat.ble (d + 1) C.n = true) (hx : ev E x = some (.int .i64 p)) (hy : ev E y = some (.int .i64 q))
    (kk : TO C ops Q l ((d, .int .i64 (p * q)) :: E) H) : TO C ops Q (i :: l) E H := TO.mul ho hg hd hx hy h.1 h.2 kk
theorem TO.negG {t : TypeId} {x : Operand} {p : Int} (h : i64ok (-p)) (ho : ops[i]? = some ⟨some d, .unOp .neg t x, ty, pos, af, g⟩) (hg : gdB ops E g = true) (hd : Nat.ble (d + 1) C.n = true)
    (hx : ev E x = some (.int .i64 p)) (kk : TO C ops Q l ((d, .int .i64 (-p)) :: E) H) : TO C ops Q (i :: l) E H := TO.neg ho hg hd hx (by rw [wrap_i64_of h.1 h.2]; exact kk)
theorem TO.quoG {t t2 : TypeId} {x y : Operand} {p q : Int} (h : q ≠ 0 ∧ i64ok (p.tdiv q)) (ho : ops[i]? = some ⟨some d, .binOp .quo t x y t2, ty, pos, af, g⟩) (hg : gdB ops E g = true) (hd : Nat.ble (d + 1) C.n = true) (hx : ev E x = some (.int .i64 p)) (hy : ev E y = some (.int .i64 q))
    (kk : TO C ops Q l ((d, .int .i64 (p.tdiv q)) :: E) H) : TO C ops Q (i :: l) E H := TO.quo ho hg hd hx hy h.1 (by rw [wrap_i64_of h.2.1 h.2.2]; exact kk)
theorem TO.mkI {t e : TypeId} {x y : Operand} {k k' q : IntKind} {p : Int} {by' : Nat} (h : mkok p) (ho : ops[i]? = some ⟨some d, .makeSlice t x y, ty, pos, af, g⟩) (hg : gdB ops E g = true) (hd : Nat.ble (d + 1) C.n = true)
    (hx : ev E x = some (.int k p)) (hy : ev E y = some (.int k' p)) (ht : sliceT C.P t = some e) (hs : sizeT C.P e = some 1) (hz : zeroT C.P e = some (.int q 0)) (hb : bytesT C.P e = some by') (hby : Nat.ble by' 8 = true)
    (kk : ∀ b, TO C ops Q l ((d, .slice (some ⟨b, 0, none⟩) p.toNat p.toNat) :: E) ((some b, .cells (arr (intC q) (List.replicate p.toNat 0) []).toArray e (0, 0)) :: H)) : TO C ops Q (i :: l) E H :=
  TO.makeI ho hg hd hx hy ht hs hz hb h.1 (by
    have := Nat.le_of_ble_eq_true hby
    have h2 : p.toNat ≤ 4294967296 := by have := h.2; omega
    have := Nat.mul_le_mul this h2; omega) (by have := h.2; omega) kk
theorem TO.mkB {t e : TypeId} {x y : Operand} {k k' : IntKind} {p : Int} {by' : Nat} (h : mkok p) (ho : ops[i]? = some ⟨some d, .makeSlice t x y, ty, pos, af, g⟩) (hg : gdB ops E g = true) (hd : Nat.ble (d + 1) C.n = true)
    (hx : ev E x = some (.int k p)) (hy : ev E y = some (.int k' p)) (ht : sliceT C.P t = some e) (hs : sizeT C.P e = some 1) (hz : zeroT C.P e = some (.bool false)) (hb : bytesT C.P e = some by') (hby : Nat.ble by' 8 = true)
    (kk : ∀ b, TO C ops Q l ((d, .slice (some ⟨b, 0, none⟩) p.toNat p.toNat) :: E) ((some b, .cells (arr boolC (List.replicate p.toNat false) []).toArray e (0, 0)) :: H)) : TO C ops Q (i :: l) E H :=
  TO.makeB ho hg hd hx hy ht hs hz hb h.1 (by
    have := Nat.le_of_ble_eq_true hby
    have h2 : p.toNat ≤ 4294967296 := by have := h.2; omega
    have := Nat.mul_le_mul this h2; omega) (by have := h.2; omega) kk
theorem TO.app {α : Type} {f : α → List Value} {s by' : Nat} {z : Value} {t e : TypeId} {x y : Operand} {ob : Option Nat} {base : Option Addr} {n c m cy : Nat} {xs ys : List α} {j : List Value}
    (hf : ∀ x, (f x).length = s) (h1 : ∀ x, (f x).all (·.oneCell') = true) (hT : ElemT C.P t e s by' z) (hk : apok (xs ++ ys).length by')
    (ho : ops[i]? = some ⟨some d, .call ⟨.builtin .append, #[x, y], #[t, t]⟩, ty, pos, af, g⟩) (hg : gdB ops E g = true) (hd : Nat.ble (d + 1) C.n = true)
    (hx : ev E x = some (.slice (sb ob) n c)) (hy : ev E y = some (.slice base m cy))
    (ht : Take (ob, .cells (arr f xs j).toArray e (0, 0)) H R) (hn : xs.length = n) (hnc : n ≤ c) (hj : j.length = (c - n) * s) (h0 : ob = none → c = 0)
    (hsrc : ∀ w, Inv C.w0 C.M w H → RS w [] f s base m cy ys)
    (kk : ∀ (ob' : Option Nat) (c' : Nat) (j' : List Value), n + m ≤ c' → j'.length = (c' - (n + m)) * s → (ob' = none → c' = 0) → TO C ops Q l ((d, .slice (sb ob') (n + m) c') :: E) ((ob', .cells (arr f (xs ++ ys) j').toArray e (0, 0)) :: R)) :
    TO C ops Q (i :: l) E H := by
  by_cases hm : ys.length = m
  · have hl : (xs ++ ys).length = n + m := lenApp hn hm
    rw [hl] at hk
    exact TO.append hf h1 hT ho hg hd hx hy ht hn hnc hj h0 (fun w hi => (hsrc w hi).ro) hk.1 hk.2 kk
  · intro a w _ hi
    exact absurd (hsrc w hi).len hm
theorem TO.callX {f : FuncId} {xs : Array Operand} {at' : Array TypeId} {vs : List Value} {Post : Value → Heap → Prop} (hF : callable C.P f = true)
    (ho : ops[i]? = some ⟨some d, .call ⟨.value (.func f), xs, at'⟩, ty, pos, af, g⟩) (hg : gdB ops E g = true) (hd : Nat.ble (d + 1) C.n = true)
    (hx : evs E xs.toList = some vs)
    (hc : ∀ w, Inv C.w0 C.M w H → Fnc C.P f vs.toArray w [] Post)
    (kk : ∀ v N, Post v N → TO C ops Q l ((d, v) :: E) (N ++ H)) : TO C ops Q (i :: l) E H := TO.call ho hg hd hF hx hc kk
end rules
end Go.Acq
namespace Go.Acq
open Go Go.RowKit
section rules
variable {C : Cx} {ops : Array Oper} {Q : Exit → Act → World → Prop} {l : List Nat} {E : Env} {H R : Heap} {i d : Nat} {ty : TypeId} {pos : String} {af : Array Edge} {g : Option (Nat × Bool)}
/-- loads from a block that is read only -/
theorem TO.ldHB {t : TypeId} {x : Operand} {b o : Nat} {cs : List Value} {v : Value} (hc : HB C.w0 C.M b cs) (hv : cs[o]? = some v) (ho : ops[i]? = some ⟨some d, .load t x, ty, pos, af, g⟩) (hg : gdB ops E g = true) (hd : Nat.ble (d + 1) C.n = true)
    (hx : ev E x = some (.pointer (some ⟨b, o, none⟩))) (hT : scalT C.P t = true)
    (kk : TO C ops Q l ((d, v) :: E) H) : TO C ops Q (i :: l) E H := TO.load ho hg hd hx hT (fun w hi => hi.cell_old (hc.has o v hv) hc.far) kk
theorem TO.ldHBA {t : TypeId} {x : Operand} {b k : Nat} {cs : List Value} (hc : HB C.w0 C.M b cs) (hk : cs.length = k) (ho : ops[i]? = some ⟨some d, .load t x, ty, pos, af, g⟩) (hg : gdB ops E g = true) (hd : Nat.ble (d + 1) C.n = true)
    (hx : ev E x = some (.pointer (some ⟨b, 0, none⟩))) (hT : aggT C.P t k = true)
    (kk : TO C ops Q l ((d, .agg cs.toArray) :: E) H) : TO C ops Q (i :: l) E H :=
  TO.loadS ho hg hd hx hT hk (fun w hi j v hv => by rw [Addr.add_mid, Nat.zero_add]; exact hi.cell_old (hc.has j v hv) hc.far) kk
theorem TO.callVX {f : FuncId} {x : Operand} {xs : Array Operand} {at' : Array TypeId} {vs : List Value} {fs cs : Array Value} {Post : Value → Heap → Prop} (hF : callable C.P f = true)
    (ho : ops[i]? = some ⟨some d, .call ⟨.value x, xs, at'⟩, ty, pos, af, g⟩) (hg : gdB ops E g = true) (hd : Nat.ble (d + 1) C.n = true)
    (hfv : ev E x = some (.func (.func f) fs cs)) (hx : evs E xs.toList = some vs)
    (hc : ∀ w, Inv C.w0 C.M w H → Fnc C.P f (fs ++ vs.toArray ++ cs) w [] Post)
    (kk : ∀ v N, Post v N → TO C ops Q l ((d, v) :: E) (N ++ H)) : TO C ops Q (i :: l) E H := TO.callV ho hg hd hF hfv hx hc kk
theorem TO.callVXM {f : FuncId} {x : Operand} {xs : Array Operand} {at' : Array TypeId} {vs : List Value} {fs cs : Array Value} {M : List Nat} {Hm : Heap} {Post : Value → Heap → Prop} (hF : callable C.P f = true)
    (ho : ops[i]? = some ⟨some d, .call ⟨.value x, xs, at'⟩, ty, pos, af, g⟩) (hg : gdB ops E g = true) (hd : Nat.ble (d + 1) C.n = true)
    (hfv : ev E x = some (.func (.func f) fs cs)) (hx : evs E xs.toList = some vs) (hH : List.Perm H (Hm ++ R)) (hM : Hm.filterMap (·.1) = M)
    (hc : ∀ w, Inv C.w0 C.M w H → Fnc C.P f (fs ++ vs.toArray ++ cs) w M Post)
    (kk : ∀ v N, Post v N → TO C ops Q l ((d, v) :: E) (N ++ R)) : TO C ops Q (i :: l) E H := TO.callVM ho hg hd hF hfv hx hH (fun m h => by rw [hM]; exact h) hc kk
end rules
section ends
variable {C : Cx} {E : Env} {H N : Heap}
theorem X.ret0 {fn : Func} {w0 : World} {M : List Nat} {Post : Value → Heap → Prop} (hw : C.w0 = w0) (hMM : C.M = M) (hD : C.D = []) (hfn : fn.results.toList = []) (hN : Pick N H) (hP : Post (.tuple #[]) N) :
    X C (bodyPost C.P fn (FncR w0 M Post)) .ret E H :=
  X.ret (vs := []) hw hMM hD hfn (fun j r' u h1 h2 => by simp at h1) rfl rfl hN hP
theorem X.ret3 {fn : Func} {r r' r'' : ResultVar} {v v' v'' : Value} {w0 : World} {M : List Nat} {Post : Value → Heap → Prop} (hw : C.w0 = w0) (hMM : C.M = M) (hD : C.D = []) (hfn : fn.results.toList = [r, r', r'']) (hr : Res C E H r v) (hr' : Res C E H r' v') (hr'' : Res C E H r'' v'') (hN : Pick N H) (hP : Post (.tuple #[v, v', v'']) N) :
    X C (bodyPost C.P fn (FncR w0 M Post)) .ret E H :=
  X.ret (vs := [v, v', v'']) hw hMM hD hfn (fun j q u h1 h2 => by
    match j with
    | 0 => simp at h1 h2; subst h1; subst h2; exact hr
    | 1 => simp at h1 h2; subst h1; subst h2; exact hr'
    | 2 => simp at h1 h2; subst h1; subst h2; exact hr''
    | j + 3 => simp at h1) rfl rfl hN hP
end ends
end Go.Acq
namespace Go.Acq
open Go Go.RowKit
section
variable {C : Cx} {ops : Array Oper} {Q : Exit → Act → World → Prop} {l : List Nat} {E : Env} {H : Heap} {c : Code}
end
end Go.Acq
