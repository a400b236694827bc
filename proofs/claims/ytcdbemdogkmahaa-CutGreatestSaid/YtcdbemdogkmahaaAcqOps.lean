/- The layer of triples: its rules for single operations. -/
import Derived.Test.YtcdbemdogkmahaaAcqArity
namespace Go.Acq
open Go Go.RowKit
/-! ### what is asked of types: closed facts -/
def scalT (P : Program) (t : TypeId) : Bool :=
  match P.underlying t with
  | some (.struct _) | some (.array _ _) | none => false
  | _ => (P.info? t).map (·.size) == some 1
def aggT (P : Program) (t : TypeId) (k : Nat) : Bool :=
  match P.underlying t with
  | some (.struct _) | some (.array _ _) => (P.info? t).map (·.size) == some k
  | _ => false
def sizeT (P : Program) (t : TypeId) : Option Nat := (P.info? t).map (·.size)
def bytesT (P : Program) (t : TypeId) : Option Nat := (P.info? t).map (·.bytes)
def zeroT (P : Program) (t : TypeId) : Option Value := (P.info? t).bind (·.zero)
def sliceT (P : Program) (t : TypeId) : Option TypeId :=
  match P.underlying t with
  | some (.slice e) => some e
  | _ => none
def fieldT (P : Program) (s : TypeId) (f : Nat) : Option Nat :=
  match P.underlying s with
  | some (.struct fs) => (fs[f]?).bind fun g => (P.info? g.type).bind fun i => if i.size = 0 then none else some g.offset
  | _ => none
section types
variable {P : Program} {t e s : TypeId} {k f o : Nat} {w : World}
theorem sliceT_eq (h : sliceT P t = some e) : P.underlying t = some (.slice e) := by
  unfold sliceT at h
  split at h
  · injection h with h; subst h; assumption
  · cases h
theorem sizeT_eq (h : sizeT P t = some k) : ∃ i, P.info? t = some i ∧ i.size = k := by
  unfold sizeT at h
  cases hi : P.info? t with
  | none => simp [hi] at h
  | some i => exact ⟨i, rfl, by simpa [hi] using h⟩
theorem run_sizeT (h : sizeT P t = some k) : (sizeOf t).run P w = .ok k w := by
  obtain ⟨i, hi, rfl⟩ := sizeT_eq h
  simp [sizeOf, typeInfo, hi]
theorem run_zeroT {z : Value} (h : zeroT P t = some z) : (zeroValue t).run P w = .ok z w := by
  unfold zeroT at h
  cases hi : P.info? t with
  | none => simp [hi] at h
  | some i => simp [hi] at h; simp [zeroValue, typeInfo, hi, h]
theorem scalT_agg (h : scalT P t = true) : (isAgg t).run P w = .ok false w := by
  unfold scalT at h
  cases hu : P.underlying t with
  | none => simp [hu] at h
  | some d => cases d <;> simp_all [isAgg, run_underlying hu]
theorem aggT_agg (h : aggT P t k = true) : (isAgg t).run P w = .ok true w := by
  unfold aggT at h
  cases hu : P.underlying t with
  | none => simp [hu] at h
  | some d => cases d <;> simp_all [isAgg, run_underlying hu]
theorem aggT_size (h : aggT P t k = true) : sizeT P t = some k := by
  unfold aggT at h
  unfold sizeT
  split at h <;> simp_all
theorem run_loadVar_scal (h : scalT P t = true) {a : Addr} {v : Value} (hc : w.cell? a = some v) : (loadVar t a).run P w = .ok v w := by
  simp [loadVar, scalT_agg h, hc]
theorem run_loadVar_agg (h : aggT P t k = true) {a : Addr} {cs : List Value} (hk : cs.length = k) (hc : ∀ j v, cs[j]? = some v → w.cell? (a.add j) = some v) :
    (loadVar t a).run P w = .ok (.agg cs.toArray) w := by
  have hl := run_loadCells_list (P := P) w a cs hc
  rw [hk] at hl
  simp [loadVar, aggT_agg h, run_sizeT (aggT_size h), hl]
theorem run_fieldAt (h : fieldT P s f = some o) (b p : Nat) : (Instr.fieldAt s (.pointer (some ⟨b, p, none⟩)) f).run P w = .ok (.pointer (some ⟨b, p + o, none⟩)) w := by
  unfold fieldT at h
  split at h
  · rename_i fs hu
    cases hg : fs[f]? with
    | none => simp [hg] at h
    | some g =>
      cases hi : P.info? g.type with
      | none => simp [hg, hi] at h
      | some i =>
        simp only [hg, hi, Option.bind_some] at h
        by_cases hz : i.size = 0
        · simp [hz] at h
        · simp [hz] at h
          subst h
          simp [Instr.fieldAt, run_underlying hu, hg, Instr.sureAddr, fieldPlace, sizeOf, typeInfo, hi, hz, Addr.add_mid]
  · cases h
end types
theorem Inv.setRow {w0 w : World} {M : List Nat} {H R : Heap} {b : Nat} {cs cs' : Array Value} {T : TypeId} {fr : Nat × Nat} (h : Inv w0 M w H) (ht : Take (some b, .cells cs T fr) H R) :
    Inv w0 M (w.setRow b cs') ((some b, .cells cs' T fr) :: R) := by
  have hb := h.own _ _ ht.mem
  refine h.upd ht rfl rfl rfl (by simp [World.setRow]) ?_ fun k hk => ?_
  · simp only [World.setRow, Array.getElem?_modify, hb]; simp
  · simp only [World.setRow, Array.getElem?_modify]
    rw [if_neg (by omega)]

section rules
variable {C : Cx} {ops : Array Oper} {Q : Exit → Act → World → Prop} {l : List Nat} {E : Env} {H R : Heap} {i d : Nat} {ty : TypeId} {pos : String} {af : Array Edge} {g : Option (Nat × Bool)}

/-- the operation is wanted: it bears no guard, or its guard's slot holds what it asks -/
def gdB (ops : Array Oper) (E : Env) : Option (Nat × Bool) → Bool
  | none => true
  | some (j, want) =>
    match ((ops[j]?).bind (·.dst)).bind (find E) with
    | some (.bool b) => b == want
    | _ => false
/-- it is not: its guard's slot holds the other one -/
def gdN (ops : Array Oper) (E : Env) : Option (Nat × Bool) → Bool
  | none => false
  | some (j, want) =>
    match ((ops[j]?).bind (·.dst)).bind (find E) with
    | some (.bool b) => b != want
    | _ => false
theorem Fits.yields {n : Nat} {D : List Deferred} {a : Act} (hf : Fits n D E a) {j t : Nat} {b : Bool} (hj : (ops[j]?).bind (·.dst) = some t) (ht : find E t = some (.bool b)) : yielded ops a.tmps j = some b := by
  have h := hf.get t _ ht
  unfold yielded
  rw [hj, Option.bind_some]
  have h2 : a.tmps[t]? = some (.bool b) := by
    rw [Array.getD_eq_getD_getElem?] at h
    cases hq : a.tmps[t]? with
    | none => rw [hq] at h; simp [undef] at h
    | some u => rw [hq] at h; simpa using h
  rw [h2]
theorem gdB_wanted {n : Nat} {D : List Deferred} {a : Act} {o : Oper} (hf : Fits n D E a) (h : gdB ops E o.guard = true) : Region.wanted o (yielded ops a.tmps) = true := by
  unfold Region.wanted
  cases hg : o.guard with
  | none => rfl
  | some jw =>
    obtain ⟨j, want⟩ := jw
    rw [hg] at h
    simp only [gdB] at h
    cases hj : (ops[j]?).bind (·.dst) with
    | none => simp [hj] at h
    | some t =>
      rw [hj, Option.bind_some] at h
      cases ht : find E t with
      | none => simp [ht] at h
      | some v =>
        rw [ht] at h
        cases v <;> simp at h
        subst h
        simp [hf.yields hj ht]
theorem gdN_wanted {n : Nat} {D : List Deferred} {a : Act} {o : Oper} (hf : Fits n D E a) (h : gdN ops E o.guard = true) : Region.wanted o (yielded ops a.tmps) = false := by
  unfold Region.wanted
  cases hg : o.guard with
  | none => rw [hg] at h; simp [gdN] at h
  | some jw =>
    obtain ⟨j, want⟩ := jw
    rw [hg] at h
    simp only [gdN] at h
    cases hj : (ops[j]?).bind (·.dst) with
    | none => simp [hj] at h
    | some t =>
      rw [hj, Option.bind_some] at h
      cases ht : find E t with
      | none => simp [ht] at h
      | some v =>
        rw [ht] at h
        cases v <;> simp at h
        simp [hf.yields hj ht, h]

theorem TO.gen {o : Oper} (ho : ops[i]? = some o) (hg : gdB ops E o.guard = true) (hnd : ∀ c, o.op ≠ .defer c)
    (h : ∀ a w, Fits C.n C.D E a → Inv C.w0 C.M w H → o.uponIn (FW C.ρ) 0 C.P a (wpOpsIn (FW C.ρ) 0 C.P ops Q l) Q ((execOp a.eval o).run C.P w)) :
    TO C ops Q (i :: l) E H := by
  intro a w hf hi
  have hw : Region.wanted o (yielded ops a.tmps) = true := gdB_wanted hf hg
  simp only [wpOpsIn, ho, hw, if_true, Oper.wpIn]
  refine ⟨fun _ _ => trivial, ?_⟩
  rw [Oper.semAt_eq _ _ _ hnd]
  exact h a w hf hi

/-- an operation that its guard shuts out -/
theorem TO.shut {o : Oper} (ho : ops[i]? = some o) (hg : gdN ops E o.guard = true) (hdst : o.dst = some d) (hd : Nat.ble (d + 1) C.n = true) (k : TO C ops Q l ((d, undef) :: E) H) : TO C ops Q (i :: l) E H := by
  intro a w hf hi
  have hw : Region.wanted o (yielded ops a.tmps) = false := gdN_wanted hf hg
  simp only [wpOpsIn, ho, hw, Bool.false_eq_true, if_false]
  refine ⟨fun _ _ => trivial, ?_⟩
  rw [hdst]
  exact k _ _ (hf.put hd _) hi
/-- a slot's bool is known -/
theorem TO.decB {t : Nat} {b b' : Bool} (ht : find E t = some (.bool b)) (hb : b = b') (k : TO C ops Q l ((t, .bool b') :: E) H) : TO C ops Q l E H := by
  subst hb
  intro a w hf hi
  refine k a w ⟨hf.size, hf.defers, fun u v hu => ?_⟩ hi
  rw [find_cons] at hu
  by_cases e : t = u
  · subst e; rw [if_pos rfl] at hu; injection hu with hu; subst hu; exact hf.get t _ ht
  · rw [if_neg e] at hu; exact hf.get u v hu
theorem TO.done (h : X C Q .normal E H) : TO C ops Q [] E H := h

theorem TO.val {op : Op} {v : Value} (ho : ops[i]? = some ⟨some d, op, ty, pos, af, g⟩) (hg : gdB ops E g = true) (hd : Nat.ble (d + 1) C.n = true) (hnd : ∀ c, op ≠ .defer c)
    (hr : ∀ a w, Fits C.n C.D E a → Inv C.w0 C.M w H → (execOp a.eval ⟨some d, op, ty, pos, af, g⟩).run C.P w = .ok (.value v) w)
    (k : TO C ops Q l ((d, v) :: E) H) : TO C ops Q (i :: l) E H :=
  TO.gen ho hg hnd fun a w hf hi => by
    rw [hr a w hf hi]
    exact k _ _ (hf.put hd v) hi

theorem TO.move {x : Operand} {v : Value} (ho : ops[i]? = some ⟨some d, .move x, ty, pos, af, g⟩) (hg : gdB ops E g = true) (hd : Nat.ble (d + 1) C.n = true) (hx : ev E x = some v)
    (k : TO C ops Q l ((d, v) :: E) H) : TO C ops Q (i :: l) E H :=
  TO.val ho hg hd (by simp) (fun a w hf _ => by simp [execOp, hf.ev hx]) k
theorem TO.assign {x : Operand} {v : Value} (ho : ops[i]? = some ⟨some d, .assign x, ty, pos, af, g⟩) (hg : gdB ops E g = true) (hd : Nat.ble (d + 1) C.n = true) (hx : ev E x = some v)
    (k : TO C ops Q l ((d, v) :: E) H) : TO C ops Q (i :: l) E H :=
  TO.val ho hg hd (by simp) (fun a w hf _ => by simp [execOp, hf.ev hx]) k
theorem TO.pickT {c x y : Operand} {v : Value} (ho : ops[i]? = some ⟨some d, .pick c x y, ty, pos, af, g⟩) (hg : gdB ops E g = true) (hd : Nat.ble (d + 1) C.n = true) (hc : ev E c = some (.bool true))
    (hx : ev E x = some v) (k : TO C ops Q l ((d, v) :: E) H) : TO C ops Q (i :: l) E H :=
  TO.val ho hg hd (by simp) (fun a w hf _ => by simp [execOp, hf.ev hc, hf.ev hx, asBool]) k
theorem TO.pickF {c x y : Operand} {v : Value} (ho : ops[i]? = some ⟨some d, .pick c x y, ty, pos, af, g⟩) (hg : gdB ops E g = true) (hd : Nat.ble (d + 1) C.n = true) (hc : ev E c = some (.bool false))
    (hx : ev E y = some v) (k : TO C ops Q l ((d, v) :: E) H) : TO C ops Q (i :: l) E H :=
  TO.val ho hg hd (by simp) (fun a w hf _ => by simp [execOp, hf.ev hc, hf.ev hx, asBool]) k

/-- what an operation on two integers gives -/
def binV : BinOp → IntKind → Int → Int → Option Value
  | .add, k, a, b => some (.int k (k.wrap (a + b)))
  | .sub, k, a, b => some (.int k (k.wrap (a - b)))
  | .mul, k, a, b => some (.int k (k.wrap (a * b)))
  | .eql, _, a, b => some (.bool (decide (a = b)))
  | .neq, _, a, b => some (.bool (decide (a ≠ b)))
  | .lss, _, a, b => some (.bool (decide (a < b)))
  | .leq, _, a, b => some (.bool (decide (a ≤ b)))
  | .gtr, _, a, b => some (.bool (decide (b < a)))
  | .geq, _, a, b => some (.bool (decide (b ≤ a)))
  | _, _, _, _ => none

theorem run_binV {op : BinOp} {k : IntKind} {a b : Int} {v : Value} {t : TypeId} {P : Program} {w : World} (h : binV op k a b = some v) : (binOp op t (.int k a) (.int k b)).run P w = .ok v w := by
  unfold binV at h
  split at h <;> try (cases h; done)
  all_goals (injection h with h; subst h)
  · simp [binOp, Op.intArith]
  · simp [binOp, Op.intArith]
  · simp [binOp, Op.intArith]
  · simp only [binOp_eql]; rw [Sem.run_pure]; congr 2
  · simp only [binOp_neq]; rw [Sem.run_pure]; congr 2; by_cases e : a = b <;> simp [e]
  · simp [binOp, Op.intCmp]
  · simp [binOp, Op.intCmp]
  · simp [binOp, Op.intCmp]
  · simp [binOp, Op.intCmp]

theorem TO.bin {op : BinOp} {t t2 : TypeId} {x y : Operand} {k : IntKind} {p q : Int} {v : Value}
    (ho : ops[i]? = some ⟨some d, .binOp op t x y t2, ty, pos, af, g⟩) (hg : gdB ops E g = true) (hd : Nat.ble (d + 1) C.n = true) (hx : ev E x = some (.int k p)) (hy : ev E y = some (.int k q))
    (hv : binV op k p q = some v) (kk : TO C ops Q l ((d, v) :: E) H) : TO C ops Q (i :: l) E H :=
  TO.val ho hg hd (by simp) (fun a w hf _ => by simp [execOp, hf.ev hx, hf.ev hy, eqGuard_at_int, run_binV hv]) kk

theorem wrap_i64_of {a : Int} (h1 : -9223372036854775808 ≤ a) (h2 : a ≤ 9223372036854775807) : IntKind.i64.wrap a = a := by
  rw [IntKind.wrap_i64]; omega

/-- + - * on int and int64, no wrap -/
theorem TO.add {t t2 : TypeId} {x y : Operand} {p q : Int}
    (ho : ops[i]? = some ⟨some d, .binOp .add t x y t2, ty, pos, af, g⟩) (hg : gdB ops E g = true) (hd : Nat.ble (d + 1) C.n = true) (hx : ev E x = some (.int .i64 p)) (hy : ev E y = some (.int .i64 q))
    (h1 : -9223372036854775808 ≤ p + q) (h2 : p + q ≤ 9223372036854775807) (kk : TO C ops Q l ((d, .int .i64 (p + q)) :: E) H) : TO C ops Q (i :: l) E H :=
  TO.bin ho hg hd hx hy (by simp only [binV]; rw [wrap_i64_of h1 h2]) kk
theorem TO.sub {t t2 : TypeId} {x y : Operand} {p q : Int}
    (ho : ops[i]? = some ⟨some d, .binOp .sub t x y t2, ty, pos, af, g⟩) (hg : gdB ops E g = true) (hd : Nat.ble (d + 1) C.n = true) (hx : ev E x = some (.int .i64 p)) (hy : ev E y = some (.int .i64 q))
    (h1 : -9223372036854775808 ≤ p - q) (h2 : p - q ≤ 9223372036854775807) (kk : TO C ops Q l ((d, .int .i64 (p - q)) :: E) H) : TO C ops Q (i :: l) E H :=
  TO.bin ho hg hd hx hy (by simp only [binV]; rw [wrap_i64_of h1 h2]) kk
theorem TO.mul {t t2 : TypeId} {x y : Operand} {p q : Int}
    (ho : ops[i]? = some ⟨some d, .binOp .mul t x y t2, ty, pos, af, g⟩) (hg : gdB ops E g = true) (hd : Nat.ble (d + 1) C.n = true) (hx : ev E x = some (.int .i64 p)) (hy : ev E y = some (.int .i64 q))
    (h1 : -9223372036854775808 ≤ p * q) (h2 : p * q ≤ 9223372036854775807) (kk : TO C ops Q l ((d, .int .i64 (p * q)) :: E) H) : TO C ops Q (i :: l) E H :=
  TO.bin ho hg hd hx hy (by simp only [binV]; rw [wrap_i64_of h1 h2]) kk
theorem TO.rem {t t2 : TypeId} {x y : Operand} {k : IntKind} {p q : Int}
    (ho : ops[i]? = some ⟨some d, .binOp .rem t x y t2, ty, pos, af, g⟩) (hg : gdB ops E g = true) (hd : Nat.ble (d + 1) C.n = true) (hx : ev E x = some (.int k p)) (hy : ev E y = some (.int k q))
    (h0 : q ≠ 0) (kk : TO C ops Q l ((d, .int k (p.tmod q)) :: E) H) : TO C ops Q (i :: l) E H :=
  TO.val ho hg hd (by simp) (fun a w hf _ => by simp [execOp, hf.ev hx, hf.ev hy, eqGuard_at_int, binOp, Op.intDiv, h0]) kk
theorem TO.quo {t t2 : TypeId} {x y : Operand} {k : IntKind} {p q : Int}
    (ho : ops[i]? = some ⟨some d, .binOp .quo t x y t2, ty, pos, af, g⟩) (hg : gdB ops E g = true) (hd : Nat.ble (d + 1) C.n = true) (hx : ev E x = some (.int k p)) (hy : ev E y = some (.int k q))
    (h0 : q ≠ 0) (kk : TO C ops Q l ((d, .int k (k.wrap (p.tdiv q))) :: E) H) : TO C ops Q (i :: l) E H :=
  TO.val ho hg hd (by simp) (fun a w hf _ => by simp [execOp, hf.ev hx, hf.ev hy, eqGuard_at_int, binOp, Op.intDiv, h0]) kk
theorem run_equalIn_bool {P : Program} (w : World) (n : Nat) {t : TypeId} (p q : Bool) (ht : P.underlying t = some .bool) : (Op.equalIn (n + 1) t (.bool p) (.bool q)).run P w = .ok (p == q) w := by
  simp [Op.equalIn, run_underlying ht]
theorem run_equalIn_nil {P : Program} (w : World) (n : Nat) {t e : TypeId} (base : Option Addr) (a c m c2 : Nat) (ht : P.underlying t = some (.slice e)) : (Op.equalIn (n + 1) t (.slice base a c) (.slice none m c2)).run P w = .ok base.isNone w := by
  cases base <;> simp [Op.equalIn, run_underlying ht]
theorem run_eq_of {P : Program} {w : World} {t : TypeId} {x y : Value} {r : Bool} (h : ∀ n, (Op.equalIn (n + 1) t x y).run P w = .ok r w) : (Op.equal t x y).run P w = .ok r w := h 9999
theorem binOp_eql_run {P : Program} {w : World} {t : TypeId} {x y : Value} {r : Bool} (h : (Op.equal t x y).run P w = .ok r w) (hb : binOp .eql t x y = (do pure (.bool (← Op.equal t x y)))) :
    (binOp .eql t x y).run P w = .ok (.bool r) w := by rw [hb]; simp [h]
theorem binOp_neq_run {P : Program} {w : World} {t : TypeId} {x y : Value} {r : Bool} (h : (Op.equal t x y).run P w = .ok r w) (hb : binOp .neq t x y = (do pure (.bool (!(← Op.equal t x y))))) :
    (binOp .neq t x y).run P w = .ok (.bool (!r)) w := by rw [hb]; simp [h]
theorem TO.neb {t t2 : TypeId} {x y : Operand} {p q : Bool} (ho : ops[i]? = some ⟨some d, .binOp .neq t x y t2, ty, pos, af, g⟩) (hg : gdB ops E g = true) (hd : Nat.ble (d + 1) C.n = true)
    (hx : ev E x = some (.bool p)) (hy : ev E y = some (.bool q)) (ht : C.P.underlying t = some .bool) (kk : TO C ops Q l ((d, .bool (!(p == q))) :: E) H) : TO C ops Q (i :: l) E H :=
  TO.val ho hg hd (by simp) (fun a w hf _ => by
    have := binOp_neq_run (run_eq_of fun n => run_equalIn_bool (P := C.P) w n p q ht) rfl
    simp only [execOp, hf.ev hx, hf.ev hy, eqGuard_at_bool]
    simp [this]) kk
/-- a slice against nil -/
theorem TO.eqnil {t t2 e : TypeId} {x y : Operand} {base : Option Addr} {n c m c2 : Nat} (ho : ops[i]? = some ⟨some d, .binOp .eql t x y t2, ty, pos, af, g⟩) (hg : gdB ops E g = true) (hd : Nat.ble (d + 1) C.n = true)
    (hx : ev E x = some (.slice base n c)) (hy : ev E y = some (.slice none m c2)) (ht : sliceT C.P t = some e) (kk : TO C ops Q l ((d, .bool base.isNone) :: E) H) : TO C ops Q (i :: l) E H :=
  TO.val ho hg hd (by simp) (fun a w hf _ => by
    have := binOp_eql_run (run_eq_of fun q => run_equalIn_nil (P := C.P) w q base n c m c2 (sliceT_eq ht)) rfl
    simp only [execOp, hf.ev hx, hf.ev hy, eqGuard_at_slice]
    simp [this]) kk
theorem TO.not {t : TypeId} {x : Operand} {b : Bool} (ho : ops[i]? = some ⟨some d, .unOp .not t x, ty, pos, af, g⟩) (hg : gdB ops E g = true) (hd : Nat.ble (d + 1) C.n = true)
    (hx : ev E x = some (.bool b)) (kk : TO C ops Q l ((d, .bool (!b)) :: E) H) : TO C ops Q (i :: l) E H :=
  TO.val ho hg hd (by simp) (fun a w hf _ => by simp [execOp, hf.ev hx, Op.unary]) kk
theorem TO.neg {t : TypeId} {x : Operand} {k : IntKind} {p : Int} (ho : ops[i]? = some ⟨some d, .unOp .neg t x, ty, pos, af, g⟩) (hg : gdB ops E g = true) (hd : Nat.ble (d + 1) C.n = true)
    (hx : ev E x = some (.int k p)) (kk : TO C ops Q l ((d, .int k (k.wrap (-p))) :: E) H) : TO C ops Q (i :: l) E H :=
  TO.val ho hg hd (by simp) (fun a w hf _ => by simp [execOp, hf.ev hx, Op.unary, Op.intArith]) kk
theorem TO.extract {x : Operand} {n : Nat} {vs : Array Value} {v : Value} (ho : ops[i]? = some ⟨some d, .extract x n, ty, pos, af, g⟩) (hg : gdB ops E g = true) (hd : Nat.ble (d + 1) C.n = true)
    (hx : ev E x = some (.tuple vs)) (hv : vs[n]? = some v) (kk : TO C ops Q l ((d, v) :: E) H) : TO C ops Q (i :: l) E H :=
  TO.val ho hg hd (by simp) (fun a w hf _ => by simp [execOp, hf.ev hx, Instr.extract, hv]) kk
/-- several operands -/
def evs (E : Env) : List Operand → Option (List Value)
  | [] => some []
  | x :: xs => match ev E x, evs E xs with
    | some v, some vs => some (v :: vs)
    | _, _ => none
theorem evl_eval {n : Nat} {D : List Deferred} {a : Act} (hfit : Fits n D E a) : ∀ {xs : List Operand} {ys : List Value}, evs E xs = some ys → xs.map a.eval = ys
  | [], ys, h => by simp [evs] at h; subst h; rfl
  | x :: xs, ys, h => by
    simp only [evs] at h
    cases hx : ev E x with
    | none => simp [hx] at h
    | some v =>
      cases hxs : evs E xs with
      | none => simp [hx, hxs] at h
      | some vs => simp [hx, hxs] at h; subst h; simp [hfit.ev hx, evl_eval hfit hxs]
/-- parts: operands with their places -/
def evp (E : Env) : List (Nat × Operand) → Option (List (Nat × Value))
  | [] => some []
  | (j, x) :: xs => match ev E x, evp E xs with
    | some v, some vs => some ((j, v) :: vs)
    | _, _ => none
theorem evp_eval {n : Nat} {D : List Deferred} {a : Act} (hfit : Fits n D E a) : ∀ {xs : List (Nat × Operand)} {ys : List (Nat × Value)}, evp E xs = some ys → xs.map (fun p => (p.1, a.eval p.2)) = ys
  | [], ys, h => by simp [evp] at h; subst h; rfl
  | (j, x) :: xs, ys, h => by
    simp only [evp] at h
    cases hx : ev E x with
    | none => simp [hx] at h
    | some v =>
      cases hxs : evp E xs with
      | none => simp [hx, hxs] at h
      | some vs => simp [hx, hxs] at h; subst h; simp [hfit.ev hx, evp_eval hfit hxs]
theorem TO.makeFunc {f : Fn} {fs cs : Array Operand} {vs us : List Value} (ho : ops[i]? = some ⟨some d, .makeFunc f fs cs, ty, pos, af, g⟩) (hg : gdB ops E g = true) (hd : Nat.ble (d + 1) C.n = true)
    (hf : evs E fs.toList = some vs) (hc : evs E cs.toList = some us) (kk : TO C ops Q l ((d, .func f vs.toArray us.toArray) :: E) H) : TO C ops Q (i :: l) E H :=
  TO.val ho hg hd (by simp) (fun a w hfit _ => by
    have e1 : fs.map a.eval = vs.toArray := by apply Array.ext'; simpa using evl_eval hfit hf
    have e2 : cs.map a.eval = us.toArray := by apply Array.ext'; simpa using evl_eval hfit hc
    simp [execOp, Instr.makeFunc, e1, e2]) kk
theorem TO.fieldAddr {s : TypeId} {x : Operand} {f o b p : Nat} (ho : ops[i]? = some ⟨some d, .fieldAddr s x f, ty, pos, af, g⟩) (hg : gdB ops E g = true) (hd : Nat.ble (d + 1) C.n = true)
    (hx : ev E x = some (.pointer (some ⟨b, p, none⟩))) (hT : fieldT C.P s f = some o) (kk : TO C ops Q l ((d, .pointer (some ⟨b, p + o, none⟩)) :: E) H) : TO C ops Q (i :: l) E H :=
  TO.val ho hg hd (by simp) (fun a w hf _ => by simp [execOp, hf.ev hx, run_fieldAt hT]) kk
/-- a field of a struct that lies at its block's begin -/
theorem TO.fieldAddr0 {s : TypeId} {x : Operand} {f o b : Nat} (ho : ops[i]? = some ⟨some d, .fieldAddr s x f, ty, pos, af, g⟩) (hg : gdB ops E g = true) (hd : Nat.ble (d + 1) C.n = true)
    (hx : ev E x = some (.pointer (some ⟨b, 0, none⟩))) (hT : fieldT C.P s f = some o) (kk : TO C ops Q l ((d, .pointer (some ⟨b, o, none⟩)) :: E) H) : TO C ops Q (i :: l) E H :=
  TO.fieldAddr ho hg hd hx hT (by rw [Nat.zero_add]; exact kk)

/-! ### memory that is made -/
theorem TO.new {op : Op} {o : Obj} (v : Nat → Value) (ho : ops[i]? = some ⟨some d, op, ty, pos, af, g⟩) (hg : gdB ops E g = true) (hd : Nat.ble (d + 1) C.n = true) (hnd : ∀ c, op ≠ .defer c)
    (hr : ∀ a w, Fits C.n C.D E a → Inv C.w0 C.M w H → (execOp a.eval ⟨some d, op, ty, pos, af, g⟩).run C.P w = .ok (.value (v w.heap.size)) (w.alloc o))
    (k : ∀ b, TO C ops Q l ((d, v b) :: E) ((some b, o) :: H)) : TO C ops Q (i :: l) E H :=
  TO.gen ho hg hnd fun a w hf hi => by
    rw [hr a w hf hi]
    exact k _ _ _ (hf.put hd _) (hi.alloc o)
theorem TO.box {t : TypeId} {x : Operand} {v : Value} (ho : ops[i]? = some ⟨some d, .box t x, ty, pos, af, g⟩) (hg : gdB ops E g = true) (hd : Nat.ble (d + 1) C.n = true) (hx : ev E x = some v)
    (k : ∀ b, TO C ops Q l ((d, .pointer (some ⟨b, 0, none⟩)) :: E) ((some b, .cells v.cells t (0, 0)) :: H)) : TO C ops Q (i :: l) E H :=
  TO.new (fun b => .pointer (some ⟨b, 0, none⟩)) ho hg hd (by simp) (fun a w hf _ => by simp [execOp, hf.ev hx, Instr.box, newVar, newRow]) k
theorem TO.boxA {t : TypeId} {x : Operand} {cs : Array Value} (ho : ops[i]? = some ⟨some d, .box t x, ty, pos, af, g⟩) (hg : gdB ops E g = true) (hd : Nat.ble (d + 1) C.n = true) (hx : ev E x = some (.agg cs))
    (k : ∀ b, TO C ops Q l ((d, .pointer (some ⟨b, 0, none⟩)) :: E) ((some b, .cells cs t (0, 0)) :: H)) : TO C ops Q (i :: l) E H := TO.box ho hg hd hx k
theorem TO.alloc {t : TypeId} {z : Value} (ho : ops[i]? = some ⟨some d, .alloc t, ty, pos, af, g⟩) (hg : gdB ops E g = true) (hd : Nat.ble (d + 1) C.n = true) (hz : zeroT C.P t = some z)
    (k : ∀ b, TO C ops Q l ((d, .pointer (some ⟨b, 0, none⟩)) :: E) ((some b, .cells z.cells t (0, 0)) :: H)) : TO C ops Q (i :: l) E H :=
  TO.new (fun b => .pointer (some ⟨b, 0, none⟩)) ho hg hd (by simp) (fun a w hf _ => by simp [execOp, Instr.alloc, run_zeroT hz, newVar, newRow]) k
theorem TO.allocA {t : TypeId} {cs : Array Value} (ho : ops[i]? = some ⟨some d, .alloc t, ty, pos, af, g⟩) (hg : gdB ops E g = true) (hd : Nat.ble (d + 1) C.n = true) (hz : zeroT C.P t = some (.agg cs))
    (k : ∀ b, TO C ops Q l ((d, .pointer (some ⟨b, 0, none⟩)) :: E) ((some b, .cells cs t (0, 0)) :: H)) : TO C ops Q (i :: l) E H := TO.alloc ho hg hd hz k

theorem TO.build {t : TypeId} {ps : Array (Nat × Operand)} {vs : List (Nat × Value)} {cs : Array Value} (ho : ops[i]? = some ⟨some d, .build t ps, ty, pos, af, g⟩) (hg : gdB ops E g = true) (hd : Nat.ble (d + 1) C.n = true)
    (hx : evp E ps.toList = some vs) (hb : C.P.built t vs = some cs)
    (kk : TO C ops Q l ((d, .agg cs) :: E) H) : TO C ops Q (i :: l) E H :=
  TO.val ho hg hd (by simp) (fun a w hf _ => by
    have e1 : (ps.map (fun p => (p.1, a.eval p.2))).toList = vs := by simpa using evp_eval hf hx
    have := run_build (P := C.P) w t (ps.map (fun p => (p.1, a.eval p.2))) cs (by rw [e1]; exact hb)
    simp [execOp, this]) kk
/-- an array's element, of several cells -/
theorem TO.indexArrS {t e : TypeId} {x y : Operand} {cs : List Value} {k : IntKind} {p : Int} {n s : Nat} {vs : List Value} (ho : ops[i]? = some ⟨some d, .index t x y, ty, pos, af, g⟩) (hg : gdB ops E g = true) (hd : Nat.ble (d + 1) C.n = true)
    (hx : ev E x = some (.agg cs.toArray)) (hy : ev E y = some (.int k p)) (hT : C.P.underlying t = some (.array n e)) (hs : aggT C.P e s = true) (h0 : 0 ≤ p) (h1 : p < n) (hv : (cs.drop (p.toNat * s)).take s = vs)
    (kk : TO C ops Q l ((d, .agg vs.toArray) :: E) H) : TO C ops Q (i :: l) E H :=
  TO.val ho hg hd (by simp) (fun a w hf _ => by
    simp [execOp, hf.ev hx, hf.ev hy, Instr.index, asIntOf, run_underlying hT, h0, h1, run_sizeT (aggT_size hs), part, aggT_agg hs, hv]) kk
/-- a struct's cells: the parts over the zero's -/
def setCells : List Value → Nat → List Value → List Value
  | z, _, [] => z
  | z, o, v :: vs => setCells (z.set o v) (o + 1) vs
def setAll (offs : List Nat) : List Value → List (Nat × Value) → List Value
  | z, [] => z
  | z, (j, v) :: ps => setAll offs (setCells z (offs.getD j 0) v.cells.toList) ps
theorem TO.buildS {t : TypeId} {ps : Array (Nat × Operand)} {vs : List (Nat × Value)} {cs : List Value} (z : List Value) (offs : List Nat) (ho : ops[i]? = some ⟨some d, .build t ps, ty, pos, af, g⟩) (hg : gdB ops E g = true) (hd : Nat.ble (d + 1) C.n = true)
    (hx : evp E ps.toList = some vs) (_hcs : setAll offs z vs = cs) (hb : C.P.built t vs = some cs.toArray)
    (kk : TO C ops Q l ((d, .agg cs.toArray) :: E) H) : TO C ops Q (i :: l) E H := TO.build ho hg hd hx hb kk
end rules
end Go.Acq
