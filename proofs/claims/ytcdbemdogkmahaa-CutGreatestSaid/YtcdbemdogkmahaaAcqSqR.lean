/- The layer of triples: the rules for operations that only read, in regions that draw. (Printed by mkq.py.) -/
import Derived.Test.YtcdbemdogkmahaaAcqSq
namespace Go.Acq
open Go Go.RowKit
section rules
variable {C : Cx} {ops : Array Oper} {Q : Act → Prop} {l : List Nat} {E : Env} {H R : Heap} {i d : Nat} {ty : TypeId} {pos : String} {af : Array Edge} {g : Option (Nat × Bool)}
theorem TQ.val {op : Op} {v : Value} (ho : ops[i]? = some ⟨some d, op, ty, pos, af, g⟩) (hg : gdB ops E g = true) (hd : Nat.ble (d + 1) C.n = true) (hnd : ∀ c, op ≠ .defer c)
    (hr : ∀ a w, Fits C.n C.D E a → Inv C.w0 C.M w H → (execOp a.eval ⟨some d, op, ty, pos, af, g⟩).run C.P w = .ok (.value v) w)
    (k : TQ C ops Q l ((d, v) :: E) H) (hns : ∀ cs b, op ≠ .select cs b := by simp) : TQ C ops Q (i :: l) E H := by
  intro a hf
  simp only [wpQ, ho]
  refine ⟨hnd, hns, ?_⟩
  rw [if_pos (gdB_wanted hf hg)]
  exact ⟨v, fun w hi => by rw [hr a w hf hi]; exact ⟨rfl, rfl⟩, k _ (hf.put hd v)⟩
theorem TQ.shut {o : Oper} (ho : ops[i]? = some o) (hg : gdN ops E o.guard = true) (hdst : o.dst = some d) (hd : Nat.ble (d + 1) C.n = true) (k : TQ C ops Q l ((d, undef) :: E) H) (hnd : ∀ c, o.op ≠ .defer c := by simp) (hns : ∀ cs b, o.op ≠ .select cs b := by simp) : TQ C ops Q (i :: l) E H := by
  intro a hf
  simp only [wpQ, ho]
  refine ⟨hnd, hns, ?_⟩
  rw [if_neg (by rw [gdN_wanted hf hg]; simp), hdst]
  exact k _ (hf.put hd _)
theorem TQ.shutU {o : Oper} (ho : ops[i]? = some o) (hg : gdU ops E o.guard = true) (hdst : o.dst = some d) (hd : Nat.ble (d + 1) C.n = true) (k : TQ C ops Q l ((d, undef) :: E) H) (hnd : ∀ c, o.op ≠ .defer c := by simp) (hns : ∀ cs b, o.op ≠ .select cs b := by simp) : TQ C ops Q (i :: l) E H := by
  intro a hf
  simp only [wpQ, ho]
  refine ⟨hnd, hns, ?_⟩
  rw [if_neg (by rw [gdU_wanted hf hg]; simp), hdst]
  exact k _ (hf.put hd _)
theorem TQ.decB {t : Nat} {b b' : Bool} (ht : find E t = some (.bool b)) (hb : b = b') (k : TQ C ops Q l ((t, .bool b') :: E) H) : TQ C ops Q l E H := by
  subst hb
  intro a hf
  refine k a ⟨hf.size, hf.defers, fun u v hu => ?_⟩
  rw [find_cons] at hu
  by_cases e : t = u
  · subst e; rw [if_pos rfl] at hu; injection hu with hu; subst hu; exact hf.get t _ ht
  · rw [if_neg e] at hu; exact hf.get u v hu
theorem TQ.move {x : Operand} {v : Value} (ho : ops[i]? = some ⟨some d, .move x, ty, pos, af, g⟩) (hg : gdB ops E g = true) (hd : Nat.ble (d + 1) C.n = true) (hx : ev E x = some v)
    (k : TQ C ops Q l ((d, v) :: E) H) : TQ C ops Q (i :: l) E H :=
  TQ.val ho hg hd (by simp) (fun a w hf _ => by simp [execOp, hf.ev hx]) k
theorem TQ.pickT {c x y : Operand} {v : Value} (ho : ops[i]? = some ⟨some d, .pick c x y, ty, pos, af, g⟩) (hg : gdB ops E g = true) (hd : Nat.ble (d + 1) C.n = true) (hc : ev E c = some (.bool true))
    (hx : ev E x = some v) (k : TQ C ops Q l ((d, v) :: E) H) : TQ C ops Q (i :: l) E H :=
  TQ.val ho hg hd (by simp) (fun a w hf _ => by simp [execOp, hf.ev hc, hf.ev hx, asBool]) k
theorem TQ.pickF {c x y : Operand} {v : Value} (ho : ops[i]? = some ⟨some d, .pick c x y, ty, pos, af, g⟩) (hg : gdB ops E g = true) (hd : Nat.ble (d + 1) C.n = true) (hc : ev E c = some (.bool false))
    (hx : ev E y = some v) (k : TQ C ops Q l ((d, v) :: E) H) : TQ C ops Q (i :: l) E H :=
  TQ.val ho hg hd (by simp) (fun a w hf _ => by simp [execOp, hf.ev hc, hf.ev hx, asBool]) k
theorem TQ.bin {op : BinOp} {t t2 : TypeId} {x y : Operand} {k : IntKind} {p q : Int} {v : Value}
    (ho : ops[i]? = some ⟨some d, .binOp op t x y t2, ty, pos, af, g⟩) (hg : gdB ops E g = true) (hd : Nat.ble (d + 1) C.n = true) (hx : ev E x = some (.int k p)) (hy : ev E y = some (.int k q))
    (hv : binV op k p q = some v) (kk : TQ C ops Q l ((d, v) :: E) H) : TQ C ops Q (i :: l) E H :=
  TQ.val ho hg hd (by simp) (fun a w hf _ => by simp [execOp, hf.ev hx, hf.ev hy, eqGuard_at_int, run_binV hv]) kk
theorem TQ.add {t t2 : TypeId} {x y : Operand} {p q : Int}
    (ho : ops[i]? = some ⟨some d, .binOp .add t x y t2, ty, pos, af, g⟩) (hg : gdB ops E g = true) (hd : Nat.ble (d + 1) C.n = true) (hx : ev E x = some (.int .i64 p)) (hy : ev E y = some (.int .i64 q))
    (h1 : -9223372036854775808 ≤ p + q) (h2 : p + q ≤ 9223372036854775807) (kk : TQ C ops Q l ((d, .int .i64 (p + q)) :: E) H) : TQ C ops Q (i :: l) E H :=
  TQ.bin ho hg hd hx hy (by simp only [binV]; rw [wrap_i64_of h1 h2]) kk
theorem TQ.not {t : TypeId} {x : Operand} {b : Bool} (ho : ops[i]? = some ⟨some d, .unOp .not t x, ty, pos, af, g⟩) (hg : gdB ops E g = true) (hd : Nat.ble (d + 1) C.n = true)
    (hx : ev E x = some (.bool b)) (kk : TQ C ops Q l ((d, .bool (!b)) :: E) H) : TQ C ops Q (i :: l) E H :=
  TQ.val ho hg hd (by simp) (fun a w hf _ => by simp [execOp, hf.ev hx, Op.unary]) kk
theorem TQ.fieldAddr {s : TypeId} {x : Operand} {f o b p : Nat} (ho : ops[i]? = some ⟨some d, .fieldAddr s x f, ty, pos, af, g⟩) (hg : gdB ops E g = true) (hd : Nat.ble (d + 1) C.n = true)
    (hx : ev E x = some (.pointer (some ⟨b, p, none⟩))) (hT : fieldT C.P s f = some o) (kk : TQ C ops Q l ((d, .pointer (some ⟨b, p + o, none⟩)) :: E) H) : TQ C ops Q (i :: l) E H :=
  TQ.val ho hg hd (by simp) (fun a w hf _ => by simp [execOp, hf.ev hx, run_fieldAt hT]) kk
theorem TQ.fieldAddr0 {s : TypeId} {x : Operand} {f o b : Nat} (ho : ops[i]? = some ⟨some d, .fieldAddr s x f, ty, pos, af, g⟩) (hg : gdB ops E g = true) (hd : Nat.ble (d + 1) C.n = true)
    (hx : ev E x = some (.pointer (some ⟨b, 0, none⟩))) (hT : fieldT C.P s f = some o) (kk : TQ C ops Q l ((d, .pointer (some ⟨b, o, none⟩)) :: E) H) : TQ C ops Q (i :: l) E H :=
  TQ.fieldAddr ho hg hd hx hT (by rw [Nat.zero_add]; exact kk)
theorem TQ.load {t : TypeId} {x : Operand} {ad : Addr} {v : Value} (ho : ops[i]? = some ⟨some d, .load t x, ty, pos, af, g⟩) (hg : gdB ops E g = true) (hd : Nat.ble (d + 1) C.n = true)
    (hx : ev E x = some (.pointer (some ad))) (hT : scalT C.P t = true) (hc : ∀ w, Inv C.w0 C.M w H → w.cell? ad = some v)
    (kk : TQ C ops Q l ((d, v) :: E) H) : TQ C ops Q (i :: l) E H :=
  TQ.val ho hg hd (by simp) (fun a w hf hi => by simp [execOp, hf.ev hx, Instr.loadAt, Instr.sureAddr, run_loadVar_scal hT (hc w hi)]) kk
theorem TQ.load1 {t T' : TypeId} {x : Operand} {b o : Nat} {cs : Array Value} {fr : Nat × Nat} {v : Value} (ho : ops[i]? = some ⟨some d, .load t x, ty, pos, af, g⟩) (hg : gdB ops E g = true) (hd : Nat.ble (d + 1) C.n = true)
    (hx : ev E x = some (.pointer (some ⟨b, o, none⟩))) (hT : scalT C.P t = true) (hm : (some b, Obj.cells cs T' fr) ∈ H) (hv : cs[o]? = some v)
    (kk : TQ C ops Q l ((d, v) :: E) H) : TQ C ops Q (i :: l) E H :=
  TQ.load ho hg hd hx hT (fun w hi => by rw [hi.cell_own hm]; exact hv) kk
theorem TQ.ldI {t T' : TypeId} {x : Operand} {b o : Nat} {k : IntKind} {xs : List Int} {j : List Value} {fr : Nat × Nat} (ho : ops[i]? = some ⟨some d, .load t x, ty, pos, af, g⟩) (hg : gdB ops E g = true) (hd : Nat.ble (d + 1) C.n = true)
    (hx : ev E x = some (.pointer (some ⟨b, o, none⟩))) (hT : scalT C.P t = true) (hm : (some b, Obj.cells (arr (intC k) xs j).toArray T' fr) ∈ H) (hv : o < xs.length)
    (kk : TQ C ops Q l ((d, .int k (xs.getD o 0)) :: E) H) : TQ C ops Q (i :: l) E H :=
  TQ.load1 ho hg hd hx hT hm (by
    have := get_arr (f := intC k) (s := 1) (fun _ => rfl) 0 xs j o 0 hv (by omega)
    simpa using this) kk
theorem TQ.ldB {t T' : TypeId} {x : Operand} {b o : Nat} {xs : List Bool} {j : List Value} {fr : Nat × Nat} (ho : ops[i]? = some ⟨some d, .load t x, ty, pos, af, g⟩) (hg : gdB ops E g = true) (hd : Nat.ble (d + 1) C.n = true)
    (hx : ev E x = some (.pointer (some ⟨b, o, none⟩))) (hT : scalT C.P t = true) (hm : (some b, Obj.cells (arr boolC xs j).toArray T' fr) ∈ H) (hv : o < xs.length)
    (kk : TQ C ops Q l ((d, .bool (xs.getD o false)) :: E) H) : TQ C ops Q (i :: l) E H :=
  TQ.load1 ho hg hd hx hT hm (by
    have := get_arr (f := boolC) (s := 1) (fun _ => rfl) false xs j o 0 hv (by omega)
    simpa using this) kk
theorem TQ.indexR {t e : TypeId} {x y : Operand} {base : Option Addr} {n c s : Nat} {k : IntKind} {p : Int} (ho : ops[i]? = some ⟨some d, .indexAddr t x y, ty, pos, af, g⟩) (hg : gdB ops E g = true) (hd : Nat.ble (d + 1) C.n = true)
    (hx : ev E x = some (.slice base n c)) (hy : ev E y = some (.int k p)) (ht : sliceT C.P t = some e) (hs : sizeT C.P e = some s) (hb : base = none → n = 0) (h0 : 0 ≤ p) (h1 : p < n)
    (kk : TQ C ops Q l ((d, .pointer (some (ea base (p.toNat * s)))) :: E) H) : TQ C ops Q (i :: l) E H :=
  TQ.val ho hg hd (by simp) (fun a w hf hi => by
    cases base with
    | none => exact absurd h1 (by simp [hb rfl]; omega)
    | some b =>
      have hu := sliceT_eq ht
      simp [execOp, hf.ev hx, hf.ev hy, Instr.indexAt, asIntOf, run_underlying hu, h0, h1, run_sizeT hs, ea]) kk
theorem TQ.index {t e : TypeId} {x y : Operand} {b o n c s : Nat} {k : IntKind} {p : Int} (ho : ops[i]? = some ⟨some d, .indexAddr t x y, ty, pos, af, g⟩) (hg : gdB ops E g = true) (hd : Nat.ble (d + 1) C.n = true)
    (hx : ev E x = some (.slice (some ⟨b, o, none⟩) n c)) (hy : ev E y = some (.int k p)) (ht : sliceT C.P t = some e) (hs : sizeT C.P e = some s) (h0 : 0 ≤ p) (h1 : p < n)
    (kk : TQ C ops Q l ((d, .pointer (some ⟨b, o + p.toNat * s, none⟩)) :: E) H) : TQ C ops Q (i :: l) E H :=
  TQ.indexR ho hg hd hx hy ht hs (by simp) h0 h1 (by simpa [ea, Addr.add_mid] using kk)
theorem TQ.index0 {t e : TypeId} {x y : Operand} {b n c s : Nat} {k : IntKind} {p : Int} (ho : ops[i]? = some ⟨some d, .indexAddr t x y, ty, pos, af, g⟩) (hg : gdB ops E g = true) (hd : Nat.ble (d + 1) C.n = true)
    (hx : ev E x = some (.slice (some ⟨b, 0, none⟩) n c)) (hy : ev E y = some (.int k p)) (ht : sliceT C.P t = some e) (hs : sizeT C.P e = some s) (h0 : 0 ≤ p) (h1 : p < n)
    (kk : TQ C ops Q l ((d, .pointer (some ⟨b, p.toNat * s, none⟩)) :: E) H) : TQ C ops Q (i :: l) E H :=
  TQ.index ho hg hd hx hy ht hs h0 h1 (by rw [Nat.zero_add]; exact kk)
theorem TQ.index1 {t e : TypeId} {x y : Operand} {b n c : Nat} {k : IntKind} {p : Int} (ho : ops[i]? = some ⟨some d, .indexAddr t x y, ty, pos, af, g⟩) (hg : gdB ops E g = true) (hd : Nat.ble (d + 1) C.n = true)
    (hx : ev E x = some (.slice (some ⟨b, 0, none⟩) n c)) (hy : ev E y = some (.int k p)) (ht : sliceT C.P t = some e) (hs : sizeT C.P e = some 1) (h0 : 0 ≤ p) (h1 : p < n)
    (kk : TQ C ops Q l ((d, .pointer (some ⟨b, p.toNat, none⟩)) :: E) H) : TQ C ops Q (i :: l) E H :=
  TQ.index0 ho hg hd hx hy ht hs h0 h1 (by rw [Nat.mul_one]; exact kk)
theorem TQ.ixR {α : Type} {f : α → List Value} {M : List Nat} {w : World} {xs : List α} {t e : TypeId} {x y : Operand} {base : Option Addr} {n c s : Nat} {k : IntKind} {p : Int} (hr : RS w M f s base n c xs) (hp : inb p xs.length)
    (ho : ops[i]? = some ⟨some d, .indexAddr t x y, ty, pos, af, g⟩) (hg : gdB ops E g = true) (hd : Nat.ble (d + 1) C.n = true)
    (hx : ev E x = some (.slice base n c)) (hy : ev E y = some (.int k p)) (ht : sliceT C.P t = some e) (hs : sizeT C.P e = some s)
    (kk : TQ C ops Q l ((d, .pointer (some (ea base (p.toNat * s)))) :: E) H) : TQ C ops Q (i :: l) E H :=
  TQ.indexR ho hg hd hx hy ht hs hr.ro.nil hp.1 (by have := hp.2; rw [hr.len] at this; exact this) kk
theorem TQ.ix0 {α : Type} {xs : List α} {t e : TypeId} {x y : Operand} {b n c s : Nat} {k : IntKind} {p : Int} (hn : xs.length = n) (hp : inb p xs.length)
    (ho : ops[i]? = some ⟨some d, .indexAddr t x y, ty, pos, af, g⟩) (hg : gdB ops E g = true) (hd : Nat.ble (d + 1) C.n = true)
    (hx : ev E x = some (.slice (some ⟨b, 0, none⟩) n c)) (hy : ev E y = some (.int k p)) (ht : sliceT C.P t = some e) (hs : sizeT C.P e = some s)
    (kk : TQ C ops Q l ((d, .pointer (some ⟨b, p.toNat * s, none⟩)) :: E) H) : TQ C ops Q (i :: l) E H :=
  TQ.index0 ho hg hd hx hy ht hs hp.1 (by have := hp.2; rw [hn] at this; exact this) kk
theorem TQ.ix1 {α : Type} {xs : List α} {t e : TypeId} {x y : Operand} {b n c : Nat} {k : IntKind} {p : Int} (hn : xs.length = n) (hp : inb p xs.length)
    (ho : ops[i]? = some ⟨some d, .indexAddr t x y, ty, pos, af, g⟩) (hg : gdB ops E g = true) (hd : Nat.ble (d + 1) C.n = true)
    (hx : ev E x = some (.slice (some ⟨b, 0, none⟩) n c)) (hy : ev E y = some (.int k p)) (ht : sliceT C.P t = some e) (hs : sizeT C.P e = some 1)
    (kk : TQ C ops Q l ((d, .pointer (some ⟨b, p.toNat, none⟩)) :: E) H) : TQ C ops Q (i :: l) E H :=
  TQ.index1 ho hg hd hx hy ht hs hp.1 (by have := hp.2; rw [hn] at this; exact this) kk
theorem TQ.faR {s : TypeId} {x : Operand} {f o n : Nat} {base : Option Addr} (ho : ops[i]? = some ⟨some d, .fieldAddr s x f, ty, pos, af, g⟩) (hg : gdB ops E g = true) (hd : Nat.ble (d + 1) C.n = true)
    (hx : ev E x = some (.pointer (some (ea base n)))) (hT : fieldT C.P s f = some o) (kk : TQ C ops Q l ((d, .pointer (some (ea base (n + o)))) :: E) H) : TQ C ops Q (i :: l) E H :=
  TQ.val ho hg hd (by simp) (fun a w hf _ => by simp [execOp, hf.ev hx, run_fieldAny hT, ea_add]) kk
theorem TQ.ldIR {t : TypeId} {x : Operand} {base : Option Addr} {n c : Nat} {k : IntKind} {p : Int} {xs : List Int} (hr : RS C.w0 C.M (intC k) 1 base n c xs) (hp : inb p xs.length) (ho : ops[i]? = some ⟨some d, .load t x, ty, pos, af, g⟩) (hg : gdB ops E g = true) (hd : Nat.ble (d + 1) C.n = true)
    (hx : ev E x = some (.pointer (some (ea base (p.toNat * 1))))) (hT : scalT C.P t = true)
    (kk : TQ C ops Q l ((d, .int k (xs.getD p.toNat 0)) :: E) H) : TQ C ops Q (i :: l) E H :=
  TQ.load ho hg hd hx hT (fun w hi => by
    have := (hr.ro.monoM hr.far hi).at 0 (o := p.toNat) (c := 0) (inb_lt hp) (by omega)
    simpa using this) kk
theorem TQ.ldFR {α : Type} {f : α → List Value} {s : Nat} {t : TypeId} {x : Operand} {base : Option Addr} {n c q : Nat} {p : Int} {xs : List α} {v : Value} (dflt : α) (hr : RS C.w0 C.M f s base n c xs) (hp : inb p xs.length) (hv : (f (xs.getD p.toNat dflt))[q]? = some v)
    (ho : ops[i]? = some ⟨some d, .load t x, ty, pos, af, g⟩) (hg : gdB ops E g = true) (hd : Nat.ble (d + 1) C.n = true)
    (hx : ev E x = some (.pointer (some (ea base (p.toNat * s + q))))) (hT : scalT C.P t = true)
    (kk : TQ C ops Q l ((d, v) :: E) H) : TQ C ops Q (i :: l) E H :=
  TQ.load ho hg hd hx hT (fun w hi => by
    have hqs : q < s := by rw [← hr.ro.wide (xs.getD p.toNat dflt)]; exact (List.getElem?_eq_some_iff.1 hv).1
    have := (hr.ro.monoM hr.far hi).at dflt (o := p.toNat) (c := q) (inb_lt hp) hqs
    exact this.trans hv) kk
theorem TQ.ldIO {t T' : TypeId} {x : Operand} {b : Nat} {k : IntKind} {p : Int} {xs : List Int} {j : List Value} {fr : Nat × Nat} (hp : inb p xs.length) (ho : ops[i]? = some ⟨some d, .load t x, ty, pos, af, g⟩) (hg : gdB ops E g = true) (hd : Nat.ble (d + 1) C.n = true)
    (hx : ev E x = some (.pointer (some ⟨b, p.toNat, none⟩))) (hT : scalT C.P t = true) (hm : (some b, Obj.cells (arr (intC k) xs j).toArray T' fr) ∈ H)
    (kk : TQ C ops Q l ((d, .int k (xs.getD p.toNat 0)) :: E) H) : TQ C ops Q (i :: l) E H := TQ.ldI ho hg hd hx hT hm (inb_lt hp) kk
theorem TQ.ldBO {t T' : TypeId} {x : Operand} {b : Nat} {p : Int} {xs : List Bool} {j : List Value} {fr : Nat × Nat} (hp : inb p xs.length) (ho : ops[i]? = some ⟨some d, .load t x, ty, pos, af, g⟩) (hg : gdB ops E g = true) (hd : Nat.ble (d + 1) C.n = true)
    (hx : ev E x = some (.pointer (some ⟨b, p.toNat, none⟩))) (hT : scalT C.P t = true) (hm : (some b, Obj.cells (arr boolC xs j).toArray T' fr) ∈ H)
    (kk : TQ C ops Q l ((d, .bool (xs.getD p.toNat false)) :: E) H) : TQ C ops Q (i :: l) E H := TQ.ldB ho hg hd hx hT hm (inb_lt hp) kk
theorem TQ.addG {t t2 : TypeId} {x y : Operand} {p q : Int} (h : i64ok (p + q)) (ho : ops[i]? = some ⟨some d, .binOp .add t x y t2, ty, pos, af, g⟩) (hg : gdB ops E g = true) (hd : Nat.ble (d + 1) C.n = true) (hx : ev E x = some (.int .i64 p)) (hy : ev E y = some (.int .i64 q))
    (kk : TQ C ops Q l ((d, .int .i64 (p + q)) :: E) H) : TQ C ops Q (i :: l) E H := TQ.add ho hg hd hx hy h.1 h.2 kk
theorem TQ.ldHB {t : TypeId} {x : Operand} {b o : Nat} {cs : List Value} {v : Value} (hc : HB C.w0 C.M b cs) (hv : cs[o]? = some v) (ho : ops[i]? = some ⟨some d, .load t x, ty, pos, af, g⟩) (hg : gdB ops E g = true) (hd : Nat.ble (d + 1) C.n = true)
    (hx : ev E x = some (.pointer (some ⟨b, o, none⟩))) (hT : scalT C.P t = true)
    (kk : TQ C ops Q l ((d, v) :: E) H) : TQ C ops Q (i :: l) E H := TQ.load ho hg hd hx hT (fun w hi => hi.cell_old (hc.has o v hv) hc.far) kk
theorem TQ.ixV {α : Type} {xs : List α} {t e : TypeId} {x y : Operand} {ob : Option Nat} {n c s : Nat} {k : IntKind} {p : Int} (hz : ob = none → c = 0) (hc : n ≤ c) (hn : xs.length = n) (hp : inb p xs.length)
    (ho : ops[i]? = some ⟨some d, .indexAddr t x y, ty, pos, af, g⟩) (hg : gdB ops E g = true) (hd : Nat.ble (d + 1) C.n = true)
    (hx : ev E x = some (.slice (sb ob) n c)) (hy : ev E y = some (.int k p)) (ht : sliceT C.P t = some e) (hs : sizeT C.P e = some s)
    (kk : TQ C ops Q l ((d, .pointer (some (ea (sb ob) (p.toNat * s)))) :: E) H) : TQ C ops Q (i :: l) E H := by
  obtain ⟨b, rfl⟩ := own_some hz hc hn hp
  exact TQ.ix0 hn hp ho hg hd hx hy ht hs (by rw [← ea_some]; exact kk)
theorem TQ.ldIV {t T' : TypeId} {x : Operand} {ob : Option Nat} {n c : Nat} {k : IntKind} {p : Int} {xs : List Int} {j : List Value} {fr : Nat × Nat} (hz : ob = none → c = 0) (hc : n ≤ c) (hn : xs.length = n) (hp : inb p xs.length) (ho : ops[i]? = some ⟨some d, .load t x, ty, pos, af, g⟩) (hg : gdB ops E g = true) (hd : Nat.ble (d + 1) C.n = true)
    (hx : ev E x = some (.pointer (some (ea (sb ob) (p.toNat * 1))))) (hT : scalT C.P t = true) (hm : (ob, Obj.cells (arr (intC k) xs j).toArray T' fr) ∈ H)
    (kk : TQ C ops Q l ((d, .int k (xs.getD p.toNat 0)) :: E) H) : TQ C ops Q (i :: l) E H := by
  obtain ⟨b, rfl⟩ := own_some hz hc hn hp
  exact TQ.ldIO hp ho hg hd (by rw [← ea_some, ← Nat.mul_one p.toNat]; exact hx) hT hm kk
end rules
end Go.Acq
